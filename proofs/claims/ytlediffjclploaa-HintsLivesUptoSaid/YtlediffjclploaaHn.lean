/-
  HintsLives.
-/
import Derived.Test.YtlediffjclploaaRows
import Derived.Test.YtlediffjclploaaHm
import Derived.Test.YtlediffjclploaaFrame
namespace Go.Proofs.Ytlediffjclploaa
attribute [local irreducible] St1 RL RA RT RT1 Run

structure DoC where
  op : Int
  hint : Hint
  now : Int
  up : SH
instance : Enc DoC := Enc.struct (fun t => [.int .i64 t.op, .int .i64 t.hint.owner, .string t.hint.key, .int .i64 t.now, .slice t.up.a t.up.len t.up.cap]) 5 (fun _ => rfl) (fun _ v hv => by simp at hv; rcases hv with rfl | rfl | rfl | rfl | rfl <;> rfl) (by decide)
def DoOk (w : World) (o : DoC) : Prop := o.hint.key.size ≤ 4294967295 ∧ i64 o.now ∧ ∃ up : List Int, o.up.len = up.length ∧ SlOf w o.up.a up ∧ up.length ≤ 1048576 ∧ ∀ x, o.up.a = some x → x.block < w.heap.size ∨ up = []
theorem putL_len {l : List KeptM} {h : Hint} (hl : l.length ≤ 256) : (putL l h).length ≤ 256 := by
  unfold putL
  split
  · split
    · rw [List.length_set]; exact hl
    · split
      · exact hl
      · rw [List.length_append]; simp only [List.length_cons, List.length_nil]; omega
  · exact hl
theorem dropL_len {l : List KeptM} {h : Hint} (hl : l.length ≤ 256) : (dropL l h).length ≤ 256 := by
  unfold dropL
  split
  · split
    · rw [List.length_append, List.length_take, List.length_drop]; omega
    · exact hl
  · exact hl
theorem len_cv {L' : List RKept} {l : List KeptM} (h : L'.map cv = l) (hl : l.length ≤ 256) : L'.length ≤ 256 := by rw [← List.length_map (f := cv), h]; exact hl
theorem due_Ln' (s : Int) (l : List KeptM) (up : List Int) : (due s l up).L.length = l.length := (dueI_len s l up up.length (Nat.le_refl _)).1
theorem due_T5 (s : Int) (l : List KeptM) (up : List Int) : (due s l up).T.length ≤ 4 * up.length := (dueI_len s l up up.length (Nat.le_refl _)).2.1

theorem ty22 : Ty Try.prog 22 1 24 (.slice (none) (0) (0)) false := ty_of (by kernel_rfl) (by kernel_rfl)
theorem ty63 : Ty Try.prog 63 5 64 (.agg #[.int .i64 (0), .int .i64 (0), .string (⟨#[]⟩), .int .i64 (0), .slice (none) (0) (0)]) true := ty_of (by kernel_rfl) (by kernel_rfl)
theorem en10 : Enters Try.prog 10 := enters_of Try.func10 rfl (by kernel_rfl)
theorem en14 : Enters Try.prog 14 := enters_of Try.func14 rfl (by kernel_rfl)
theorem en17 : Enters Try.prog 17 := enters_of Try.func17 rfl (by kernel_rfl)
theorem en22 : Enters Try.prog 22 := enters_of Try.func22 rfl (by kernel_rfl)
theorem en24 : Enters Try.prog 24 := enters_of Try.func24 rfl (by kernel_rfl)
theorem en26 : Enters Try.prog 26 := enters_of Try.func26 rfl (by kernel_rfl)
theorem en27 : Enters Try.prog 27 := enters_of Try.func27 rfl (by kernel_rfl)
theorem en28 : Enters Try.prog 28 := enters_of Try.func28 rfl (by kernel_rfl)
theorem en29 : Enters Try.prog 29 := enters_of Try.func29 rfl (by kernel_rfl)
theorem en30 : Enters Try.prog 30 := enters_of Try.func30 rfl (by kernel_rfl)
theorem en31 : Enters Try.prog 31 := enters_of Try.func31 rfl (by kernel_rfl)

set_option maxHeartbeats 4000000 in
theorem law_lives (as0 : Option Addr) (script : List DoC) (cs0 : Nat) (w : World) (h0 : SlOf w as0 script) (hl0 : script.length ≤ 1048576) (hq : ∀ o ∈ script, DoOk w o) :
    Calls Try.prog 8 #[.slice (as0) (script.length) (cs0)] w (Ret (fun v w' => v = .bool true ∧ Ext w w')) := by
  refine calls_run (n := 122) Try.func8 rfl rfl rfl ?_
  refine Run.seq ?_
  refine Run.region ?_
  refine RL.val (x_assignB rfl) ?_
  refine RL.nil ?_
  refine Run.seq ?_
  refine Run.region ?_
  refine RL.st rfl <| St1.call (vals := []) en25 rfl (newB _) ?_
  rintro _ w_2 ⟨b_1, rfl, hB_3, hg_4, K_5⟩
  have pg_6 : ∀ q_, boxS b_1 none q_ → w.heap.size ≤ q_ := fun q_ h => Nat.le_trans (Nat.le_refl _) ((boxS_new hg_4) q_ h)
  clear hg_4
  have K0 := (K_5 : Ext w _)
  refine RL.val (x_build (cells := #[.slice (none) (0) (0), .int .i64 (0)]) (by kernel_rfl)) ?_
  refine RL.st rfl <| St1.box (v := .agg #[.slice (none) (0) (0), .int .i64 (0)]) rfl ?_
  intro b_7 w_8 hl_11 hb_10 K_9
  replace hb_10 : Blk w_8 b_7 [.slice (none) (0) (0), .int .i64 (0)] 61 := hb_10
  have pr_12 : ¬ boxS b_1 none b_7 := fun h => absurd (hB_3.own_lt _ h) (by omega)
  have : w.heap.size ≤ b_7 := Nat.le_trans K0.size hl_11
  clear hl_11
  replace hB_3 := hB_3.ext K_9
  replace K0 := K0.ext K_9
  refine RL.val (x_assignP rfl) ?_
  refine RL.val (x_assignP rfl) ?_
  refine RL.nil ?_
  have hR : RBoxAt w_8 b_7 none 0 [] 0 := ⟨hb_10, OwnSl.nil _ _, own_none _, (fun r hr => by cases hr), by omega⟩
  clear hb_10
  refine Run.seq ?_
  refine Run.seq ?_
  refine Run.region ?_
  refine RL.val (x_moveSl rfl) ?_
  refine RL.val (x_lenSl Try.underlying56 rfl) ?_
  refine RL.val (x_moveI rfl) ?_
  refine RL.nil ?_
  refine Run.block ?_
  refine Run.loop (ι := Nat) (fun i ρ' w' => ∃ L : List RKept, ∃ now : Int, ∃ alb : Option Addr, ∃ clb : Nat, ∃ alr : Option Addr, ∃ clr : Nat, Holds ρ' [(3, .pointer (some ⟨b_1, 0, none⟩)), (4, .pointer (some ⟨b_7, 0, none⟩)), (13, .slice (as0) (script.length) (cs0)), (14, .int .i64 (((script.length : Nat) : Int))), (15, .int .i64 (((i : Nat) : Int)))] ∧ Ext w w' ∧ (BoxAt w' b_1 alb clb (L.map cv) now) ∧ (RBoxAt w' b_7 alr clr L now) ∧ (∀ q_, boxS b_1 alb q_ → ¬ boxS b_7 alr q_) ∧ (∀ q_, boxS b_1 alb q_ → w.heap.size ≤ q_) ∧ (∀ q_, boxS b_7 alr q_ → w.heap.size ≤ q_) ∧ (i ≤ script.length) ∧ (L.length ≤ 256) ∧ (now ≤ 9223372036854775807)) (fun i => script.length - i) 0 ?_ ?_
  · refine ⟨_, _, _, _, _, _, ⟨rfl, rfl, rfl, rfl, rfl, trivial⟩, K0, hB_3, hR, (fun q_ h1 h2 => h2.elim (fun e => pr_12 (e ▸ h1)) (fun h => own_none _ h)), pg_6, (fun q_ h => h.elim (fun e => by omega) (fun h => absurd h (own_none q_))), ?_, ?_, ?_⟩
    · omega
    · simp
    · omega
  clear hB_3 hR
  clear K0
  rintro i ρ_20 w_13 ⟨L, now, alb, clb, alr, clr, hH_14, K0, hO_15, hO_16, pr_17, pr_18, pr_19, hi, hLl, hnow⟩ ih1
  obtain ⟨ρ₀, rfl⟩ := hH_14.ex
  clear hH_14
  refine Run.seq ?_
  refine Run.region ?_
  refine RL.val (x_ltI rfl rfl) ?_
  refine RL.nil ?_
  refine Run.seq ?_
  refine Run.cond rfl (fun hc16 => ?_) (fun hc16 => ?_)
  · try simp only [br] at hc16
    refine Run.skip ?_
    refine Run.seq ?_
    refine Run.block ?_
    refine Run.seq ?_
    refine Run.region ?_
    refine RL.val (x_moveI rfl) ?_
    obtain ⟨b_21, o_22, o, hx, ha_23, hc_24⟩ := h0.el (i := i) (by first | omega | (simp only [List.length_set]; omega))
    have hc_24_lt := hc_24.lt
    replace hc_24 := hc_24.ext K0
    refine RL.val (x_idxN Try.underlying56 ty63 rfl rfl ha_23 (by first | omega | (simp only [List.length_set]; omega))) ?_
    refine RL.val (x_ldV (v := .agg #[.int .i64 ((o).op), .int .i64 (((o).hint).owner), .string (((o).hint).key), .int .i64 ((o).now), .slice ((o).up.a) ((o).up.len) ((o).up.cap)]) (y := o) ty63 rfl hc_24 rfl) ?_
    refine RL.st rfl <| St1.alloc ty63 ?_
    intro b_27 w_28 hl_31 hb_30 K_29
    replace hb_30 : Blk w_28 b_27 [.int .i64 (0), .int .i64 (0), .string (⟨#[]⟩), .int .i64 (0), .slice (none) (0) (0)] 63 := hb_30
    have ne_32 : b_21 < b_27 := Nat.lt_of_lt_of_le hc_24.lt hl_31
    have pr_33 : ¬ boxS b_1 alb b_27 := fun h => absurd (hO_15.own_lt _ h) (by omega)
    have pr_34 : ¬ boxS b_7 alr b_27 := fun h => absurd (hO_16.own_lt _ h) (by omega)
    have : w.heap.size ≤ b_27 := Nat.le_trans K0.size hl_31
    clear hl_31
    replace hO_15 := hO_15.ext K_29
    replace hO_16 := hO_16.ext K_29
    replace hc_24 := hc_24.ext K_29
    replace K0 := K0.ext K_29
    refine RL.val (x_assignI rfl) ?_
    refine RL.st rfl <| St1.store (v := .agg #[.int .i64 ((o).op), .int .i64 (((o).hint).owner), .string (((o).hint).key), .int .i64 ((o).now), .slice ((o).up.a) ((o).up.len) ((o).up.cap)]) ty63 rfl rfl rfl (by simp [Value.cells, Value.oneCell']) hb_30 (by simp) ?_
    intro w_35 hb_30_ K_36
    have hb_30' : Blk w_35 b_27 [.int .i64 ((o).op), .int .i64 (((o).hint).owner), .string (((o).hint).key), .int .i64 ((o).now), .slice ((o).up.a) ((o).up.len) ((o).up.cap)] 63 := hb_30_
    clear hb_30_
    replace hO_15 := hO_15.keepO K_36 (fun q_ hq_ eq_ => pr_33 (by simp only [one] at eq_; rw [← eq_]; exact hq_))
    replace hO_16 := hO_16.keepO K_36 (fun q_ hq_ eq_ => pr_34 (by simp only [one] at eq_; rw [← eq_]; exact hq_))
    replace hc_24 := hc_24.keep K_36 (by simp only [one]; omega)
    replace K0 := K0.new K_36 (fun x hx => by simp only [one] at hx; omega)
    replace hb_30 := hb_30'
    clear hb_30'
    refine RL.nil ?_
    obtain ⟨hkk, hni, up, hul, hus, hup, hub⟩ := hq o (mem_of_at hx)
    unfold i64 at hni
    have hlm0 : (L.map cv).length = L.length := List.length_map ..
    refine Run.seq ?_
    refine Run.seq ?_
    refine Run.region ?_
    refine RL.val (x_moveI rfl) ?_
    refine RL.val (x_gtI rfl rfl) ?_
    refine RL.nil ?_
    refine Run.cond rfl (fun hc21 => ?_) (fun hc21 => ?_)
    · try simp only [br] at hc21
      refine Run.exit rfl ?_
      refine Run.seq ?_
      have hlm : (L.map cv).length = L.length := List.length_map ..
      have hlm2 : ((L.map cv).map (·.h)).length = L.length := by rw [List.length_map, List.length_map]
      refine Run.region ?_
      refine RL.val (x_moveP rfl) ?_
      refine RL.st rfl <| St1.call (vals := [.pointer (some ⟨b_1, 0, none⟩)]) en24 rfl (hintsB _ _ _ (L.map cv) now _ hO_15.blk hO_15.own.sl (by omega)) ?_
      rintro _ w_39 ⟨a_37, c_38, rfl, ho_40, hg_41, K_42⟩
      have pr_43 : ∀ q_, own a_37 q_ → ¬ boxS b_1 alb q_ := apartNew hg_41 hO_15.own_lt
      have pr_44 : ∀ q_, own a_37 q_ → ¬ boxS b_7 alr q_ := apartNew hg_41 hO_16.own_lt
      have pr_45 : ¬ own a_37 b_27 := notNew hg_41 hb_30.lt
      have pg_46 : ∀ q_, own a_37 q_ → w.heap.size ≤ q_ := fun q_ h => Nat.le_trans K0.size (hg_41 q_ h)
      clear hg_41
      replace hO_15 := hO_15.ext K_42
      replace hO_16 := hO_16.ext K_42
      replace hb_30 := hb_30.ext K_42
      replace K0 := K0.ext K_42
      refine RL.val (x_moveP rfl) ?_
      refine RL.st rfl <| St1.call (vals := [.pointer (some ⟨b_7, 0, none⟩)]) en31 rfl (hintsR _ _ _ L now _ hO_16.blk hO_16.own.sl (by omega)) ?_
      rintro _ w_49 ⟨a_47, c_48, rfl, ho_50, hg_51, K_52⟩
      have pr_53 : ∀ q_, own a_47 q_ → ¬ boxS b_1 alb q_ := apartNew hg_51 hO_15.own_lt
      have pr_54 : ∀ q_, own a_47 q_ → ¬ boxS b_7 alr q_ := apartNew hg_51 hO_16.own_lt
      have pr_55 : ¬ own a_47 b_27 := notNew hg_51 hb_30.lt
      have pr_56 : ∀ q_, own a_47 q_ → ¬ own a_37 q_ := apartNew hg_51 ho_40.own_lt
      have pg_57 : ∀ q_, own a_47 q_ → w.heap.size ≤ q_ := fun q_ h => Nat.le_trans K0.size (hg_51 q_ h)
      clear hg_51
      replace hO_15 := hO_15.ext K_52
      replace hO_16 := hO_16.ext K_52
      replace hb_30 := hb_30.ext K_52
      replace ho_40 := ho_40.ext K_52
      replace K0 := K0.ext K_52
      refine RL.st rfl <| St1.call (vals := [.slice (a_37) (((L.map cv).map (·.h)).length) (c_38), .slice (a_47) (((L.map cv).map (·.h)).length) (c_48)]) en20 rfl (equal_hint _ _ _ _ _ _ _ ho_40.sl ho_50.sl (by omega)) ?_
      rintro _ w_58 ⟨rfl, K_59⟩
      replace hO_15 := hO_15.ext K_59
      replace hO_16 := hO_16.ext K_59
      replace hb_30 := hb_30.ext K_59
      replace ho_40 := ho_40.ext K_59
      replace ho_50 := ho_50.ext K_59
      replace K0 := K0.ext K_59
      refine RL.val (litT (x_moveB rfl) (by simp)) ?_
      refine RL.gst (wantedT1 rfl rfl rfl rfl) <| St1.call (vals := []) en17 rfl (awake16 _) ?_
      rintro _ w_60 ⟨rfl, K_61⟩
      replace hO_15 := hO_15.ext K_61
      replace hO_16 := hO_16.ext K_61
      replace hb_30 := hb_30.ext K_61
      replace ho_40 := ho_40.ext K_61
      replace ho_50 := ho_50.ext K_61
      replace K0 := K0.ext K_61
      refine RL.val (x_andT rfl rfl rfl) ?_
      refine RL.val (x_assignB rfl) ?_
      refine RL.nil ?_
      refine Run.ret1 (v := .bool (true)) Try.func8 rfl rfl ?_
      exact ⟨_, rfl, rfl, K0⟩
    · try simp only [br] at hc21
      refine Run.skip ?_
      refine Run.seq ?_
      refine Run.seq ?_
      refine Run.region ?_
      refine RL.val (x_fld (o' := 0) Try.underlying63 rfl ty3 rfl rfl rfl) ?_
      refine RL.val (x_ld (v := .int .i64 ((o).op)) ty3 rfl rfl (hb_30.cl.field (i := 0) rfl)) ?_
      refine RL.val (x_convI rfl ⟨_, Try.underlying3⟩ Try.underlying32) ?_
      refine RL.val (x_rem rfl rfl (by decide)) ?_
      refine RL.nil ?_
      refine Run.block ?_
      refine Run.seq ?_
      refine Run.seq ?_
      refine Run.region ?_
      refine RL.val (x_eqI rfl rfl) ?_
      refine RL.val (x_assignB rfl) ?_
      refine RL.nil ?_
      refine Run.cond rfl (fun hc49 => ?_) (fun hc49 => ?_)
      · try simp only [br] at hc49
        refine Run.skip ?_
        refine Run.cond rfl (fun hc49 => ?_) (fun hc49 => ?_)
        · try simp only [br] at hc49
          refine Run.seq ?_
          refine Run.drawT [] (m := 9) (by kernel_rfl) rfl ?_
          intro w_62 K_63
          replace hO_15 := hO_15.ext K_63
          replace hO_16 := hO_16.ext K_63
          replace hb_30 := hb_30.ext K_63
          replace K0 := K0.ext K_63
          refine ⟨fun w' => Blk w' b_27 [.int .i64 ((o).op), .int .i64 (((o).hint).owner), .string (((o).hint).key), .int .i64 ((o).now), .slice ((o).up.a) ((o).up.len) ((o).up.cap)] 63 ∧ True, ?_⟩
          refine RT.takeP (v := .pointer (some ⟨b_1, 0, none⟩)) 0 rfl (by kernel_rfl) (.inr ⟨hb_30, trivial⟩) (fun _ => (x_moveP rfl)) ?_
          refine RT.takeP (v := .pointer (some ⟨b_27, 1, none⟩)) 1 rfl (by kernel_rfl) (.inr ⟨hb_30, trivial⟩) (fun _ => (x_fld (o' := 1) Try.underlying63 rfl ty42 rfl rfl rfl)) ?_
          refine RT.take (v := .agg #[.int .i64 (((o).hint).owner), .string (((o).hint).key)]) 2 rfl (by kernel_rfl) ⟨hb_30, trivial⟩ (by rintro _ ⟨hb_30, -⟩; exact (x_lds (cs := #[.int .i64 (((o).hint).owner), .string (((o).hint).key)]) ty42 rfl rfl (hb_30.cl.drop 1 2))) ?_
          refine RT.takeP (v := .pointer (some ⟨b_7, 0, none⟩)) 4 rfl (by kernel_rfl) (.inr ⟨hb_30, trivial⟩) (fun _ => (x_moveP rfl)) ?_
          refine RT.takeP (v := .pointer (some ⟨b_27, 1, none⟩)) 5 rfl (by kernel_rfl) (.inr ⟨hb_30, trivial⟩) (fun _ => (x_fld (o' := 1) Try.underlying63 rfl ty42 rfl rfl rfl)) ?_
          refine RT.take (v := .agg #[.int .i64 (((o).hint).owner), .string (((o).hint).key)]) 6 rfl (by kernel_rfl) ⟨hb_30, trivial⟩ (by rintro _ ⟨hb_30, -⟩; exact (x_lds (cs := #[.int .i64 (((o).hint).owner), .string (((o).hint).key)]) ty42 rfl rfl (hb_30.cl.drop 1 2))) ?_
          refine RT.st 3 rfl (by kernel_rfl) rfl <| St1.call (vals := [.pointer (some ⟨b_1, 0, none⟩), .agg #[.int .i64 (((o).hint).owner), .string (((o).hint).key)]]) en19 rfl (putB _ _ _ (L.map cv) now ((o).hint) _ hO_15 (by omega) (by omega)) ?_
          rintro _ w_66 ⟨al_64, cl_65, rfl, hB_67, hm_68, K_69⟩
          have pr_71 : ∀ q_, boxS b_1 al_64 q_ → ¬ boxS b_7 alr q_ := hm_68.apart pr_17 hO_16.own_lt
          have pr_72 : ¬ boxS b_1 al_64 b_27 := hm_68.not pr_33 hb_30.lt
          have pg_73 : ∀ q_, boxS b_1 al_64 q_ → w.heap.size ≤ q_ := hm_68.ge pr_18 K0.size
          replace hO_16 := hO_16.keepO K_69 (fun q_ h1 h2 => pr_17 q_ h2 h1)
          replace hb_30 := hb_30.keep K_69 pr_33
          replace K0 := K0.new K_69 pr_18
          clear hm_68
          refine ⟨.inr ⟨hb_30, trivial⟩, ?_⟩
          refine RT.st 7 rfl (by kernel_rfl) rfl <| St1.call (vals := [.pointer (some ⟨b_7, 0, none⟩), .agg #[.int .i64 (((o).hint).owner), .string (((o).hint).key)]]) en26 rfl (putR _ _ _ L now ((o).hint) _ hO_16 (by omega) (by omega)) ?_
          rintro _ w_77 ⟨al_74, cl_75, L_76, rfl, hB_78, hcv, hm_79, K_80⟩
          have pr_81 : ¬ boxS b_7 al_74 b_27 := hm_79.not pr_34 hb_30.lt
          have pr_82 : ∀ q_, boxS b_7 al_74 q_ → ¬ boxS b_1 al_64 q_ := hm_79.apart (fun q_ h1 h2 => pr_71 q_ h2 h1) hB_67.own_lt
          have pg_83 : ∀ q_, boxS b_7 al_74 q_ → w.heap.size ≤ q_ := hm_79.ge pr_19 K0.size
          replace hb_30 := hb_30.keep K_80 pr_34
          replace hB_67 := hB_67.keepO K_80 pr_71
          replace K0 := K0.new K_80 pr_19
          clear hm_79
          refine ⟨.inr ⟨hb_30, trivial⟩, ?_⟩
          refine RT.takeP (v := .bool (false)) 8 rfl (by kernel_rfl) (.inr ⟨hb_30, trivial⟩) (fun _ => (litF (x_neI rfl rfl) (by simp))) ?_
          refine RT.done (by kernel_rfl) ?_
          have hL1 : L_76.length ≤ 256 := len_cv hcv (putL_len (by rw [List.length_map]; omega))
          rw [← hcv] at hB_67
          clear hcv
          have hlm : (L_76.map cv).length = L_76.length := List.length_map ..
          have hlm2 : ((L_76.map cv).map (·.h)).length = L_76.length := by rw [List.length_map, List.length_map]
          refine Run.condF rfl ?_
          refine Run.skip ?_
          refine Run.inBlock ?_
          refine Run.seq ?_
          refine Run.region ?_
          refine RL.val (x_moveP rfl) ?_
          refine RL.st rfl <| St1.call (vals := [.pointer (some ⟨b_1, 0, none⟩)]) en24 rfl (hintsB _ _ _ (L_76.map cv) now _ hB_67.blk hB_67.own.sl (by omega)) ?_
          rintro _ w_86 ⟨a_84, c_85, rfl, ho_87, hg_88, K_89⟩
          have pr_90 : ¬ own a_84 b_27 := notNew hg_88 hb_30.lt
          have pr_91 : ∀ q_, own a_84 q_ → ¬ boxS b_1 al_64 q_ := apartNew hg_88 hB_67.own_lt
          have pr_92 : ∀ q_, own a_84 q_ → ¬ boxS b_7 al_74 q_ := apartNew hg_88 hB_78.own_lt
          have pg_93 : ∀ q_, own a_84 q_ → w.heap.size ≤ q_ := fun q_ h => Nat.le_trans K0.size (hg_88 q_ h)
          clear hg_88
          replace hb_30 := hb_30.ext K_89
          replace hB_67 := hB_67.ext K_89
          replace hB_78 := hB_78.ext K_89
          replace K0 := K0.ext K_89
          refine RL.val (x_assignSl rfl) ?_
          refine RL.nil ?_
          refine Run.seq ?_
          refine Run.seq ?_
          refine Run.drawT [] (m := 29) (by kernel_rfl) rfl ?_
          intro w_94 K_95
          replace hb_30 := hb_30.ext K_95
          replace hB_67 := hB_67.ext K_95
          replace hB_78 := hB_78.ext K_95
          replace ho_87 := ho_87.ext K_95
          replace K0 := K0.ext K_95
          refine ⟨fun w' => Blk w' b_27 [.int .i64 ((o).op), .int .i64 (((o).hint).owner), .string (((o).hint).key), .int .i64 ((o).now), .slice ((o).up.a) ((o).up.len) ((o).up.cap)] 63 ∧ True, ?_⟩
          refine RT.takeP (v := .pointer (some ⟨b_1, 0, none⟩)) 0 rfl (by kernel_rfl) (.inr ⟨hb_30, trivial⟩) (fun _ => (x_moveP rfl)) ?_
          refine RT.takeP (v := .pointer (some ⟨b_27, 1, none⟩)) 1 rfl (by kernel_rfl) (.inr ⟨hb_30, trivial⟩) (fun _ => (x_fld (o' := 1) Try.underlying63 rfl ty42 rfl rfl rfl)) ?_
          refine RT.take (v := .agg #[.int .i64 (((o).hint).owner), .string (((o).hint).key)]) 2 rfl (by kernel_rfl) ⟨hb_30, trivial⟩ (by rintro _ ⟨hb_30, -⟩; exact (x_lds (cs := #[.int .i64 (((o).hint).owner), .string (((o).hint).key)]) ty42 rfl rfl (hb_30.cl.drop 1 2))) ?_
          refine RT.takeP (v := .pointer (some ⟨b_7, 0, none⟩)) 4 rfl (by kernel_rfl) (.inr ⟨hb_30, trivial⟩) (fun _ => (x_moveP rfl)) ?_
          refine RT.takeP (v := .pointer (some ⟨b_27, 1, none⟩)) 5 rfl (by kernel_rfl) (.inr ⟨hb_30, trivial⟩) (fun _ => (x_fld (o' := 1) Try.underlying63 rfl ty42 rfl rfl rfl)) ?_
          refine RT.take (v := .agg #[.int .i64 (((o).hint).owner), .string (((o).hint).key)]) 6 rfl (by kernel_rfl) ⟨hb_30, trivial⟩ (by rintro _ ⟨hb_30, -⟩; exact (x_lds (cs := #[.int .i64 (((o).hint).owner), .string (((o).hint).key)]) ty42 rfl rfl (hb_30.cl.drop 1 2))) ?_
          refine RT.st 3 rfl (by kernel_rfl) rfl <| St1.call (vals := [.pointer (some ⟨b_1, 0, none⟩), .agg #[.int .i64 (((o).hint).owner), .string (((o).hint).key)]]) en23 rfl (hasB _ _ _ (L_76.map cv) now ((o).hint) _ hB_67.blk hB_67.own.sl (by omega)) ?_
          rintro _ w_96 ⟨rfl, K_97⟩
          replace hb_30 := hb_30.ext K_97
          replace hB_67 := hB_67.ext K_97
          replace hB_78 := hB_78.ext K_97
          replace ho_87 := ho_87.ext K_97
          replace K0 := K0.ext K_97
          refine ⟨.inr ⟨hb_30, trivial⟩, ?_⟩
          refine RT.st 7 rfl (by kernel_rfl) rfl <| St1.call (vals := [.pointer (some ⟨b_7, 0, none⟩), .agg #[.int .i64 (((o).hint).owner), .string (((o).hint).key)]]) en29 rfl (hasR _ _ _ L_76 now ((o).hint) _ hB_78.blk hB_78.own.sl (by omega)) ?_
          rintro _ w_98 ⟨rfl, K_99⟩
          replace hb_30 := hb_30.ext K_99
          replace hB_67 := hB_67.ext K_99
          replace hB_78 := hB_78.ext K_99
          replace ho_87 := ho_87.ext K_99
          replace K0 := K0.ext K_99
          refine ⟨.inr ⟨hb_30, trivial⟩, ?_⟩
          refine RT.takeP (v := .bool (false)) 8 rfl (by kernel_rfl) (.inr ⟨hb_30, trivial⟩) (fun _ => (litF (x_neB Try.underlying4 rfl rfl) (by simp))) ?_
          refine RT.takeP (v := .bool (false)) 9 rfl (by kernel_rfl) (.inr ⟨hb_30, trivial⟩) (fun _ => (x_moveB rfl)) ?_
          refine RT.gtakeP (v := .pointer (some ⟨b_1, 0, none⟩)) 10 rfl (by kernel_rfl) (.inr ⟨hb_30, trivial⟩) (wantedF1 rfl rfl rfl rfl) (fun hg _ => (x_moveP rfl)) ?_
          refine RT.gtakeP (v := .pointer (some ⟨b_27, 1, none⟩)) 11 rfl (by kernel_rfl) (.inr ⟨hb_30, trivial⟩) (wantedF1 rfl rfl rfl rfl) (fun hg _ => (x_fld (o' := 1) Try.underlying63 rfl ty42 rfl rfl rfl)) ?_
          refine RT.gtakeP (v := .pointer (some ⟨b_27, 1, none⟩)) 12 rfl (by kernel_rfl) (.inr ⟨hb_30, trivial⟩) (wantedF1 rfl rfl rfl rfl) (fun hg _ => (x_fld (o' := 1) Try.underlying42 rfl ty3 rfl rfl rfl)) ?_
          refine RT.gtake (v := .int .i64 (((o).hint).owner)) 13 rfl (by kernel_rfl) ⟨hb_30, trivial⟩ (wantedF1 rfl rfl rfl rfl) (fun hg => by rintro _ ⟨hb_30, -⟩; exact (x_ld (v := .int .i64 (((o).hint).owner)) ty3 rfl rfl (hb_30.cl.field (i := 1) rfl))) ?_
          refine RT.gtakeP (v := .pointer (some ⟨b_7, 0, none⟩)) 15 rfl (by kernel_rfl) (.inr ⟨hb_30, trivial⟩) (wantedF1 rfl rfl rfl rfl) (fun hg _ => (x_moveP rfl)) ?_
          refine RT.gtakeP (v := .pointer (some ⟨b_27, 1, none⟩)) 16 rfl (by kernel_rfl) (.inr ⟨hb_30, trivial⟩) (wantedF1 rfl rfl rfl rfl) (fun hg _ => (x_fld (o' := 1) Try.underlying63 rfl ty42 rfl rfl rfl)) ?_
          refine RT.gtakeP (v := .pointer (some ⟨b_27, 1, none⟩)) 17 rfl (by kernel_rfl) (.inr ⟨hb_30, trivial⟩) (wantedF1 rfl rfl rfl rfl) (fun hg _ => (x_fld (o' := 1) Try.underlying42 rfl ty3 rfl rfl rfl)) ?_
          refine RT.gtake (v := .int .i64 (((o).hint).owner)) 18 rfl (by kernel_rfl) ⟨hb_30, trivial⟩ (wantedF1 rfl rfl rfl rfl) (fun hg => by rintro _ ⟨hb_30, -⟩; exact (x_ld (v := .int .i64 (((o).hint).owner)) ty3 rfl rfl (hb_30.cl.field (i := 1) rfl))) ?_
          refine RT.gst 14 rfl (by kernel_rfl) (wantedF1 rfl rfl rfl rfl) <| St1.call (vals := [.pointer (some ⟨b_1, 0, none⟩), .int .i64 (((o).hint).owner)]) en21 rfl (countP16 _ _ _ (L_76.map cv) now (((o).hint).owner) _ hB_67.blk hB_67.own.sl (by omega)) ?_
          rintro _ w_100 ⟨rfl, K_101⟩
          replace hb_30 := hb_30.ext K_101
          replace hB_67 := hB_67.ext K_101
          replace hB_78 := hB_78.ext K_101
          replace ho_87 := ho_87.ext K_101
          replace K0 := K0.ext K_101
          refine ⟨.inr ⟨hb_30, trivial⟩, ?_⟩
          refine RT.gst 19 rfl (by kernel_rfl) (wantedF1 rfl rfl rfl rfl) <| St1.call (vals := [.pointer (some ⟨b_7, 0, none⟩), .int .i64 (((o).hint).owner)]) en30 rfl (countR16 _ _ _ L_76 now (((o).hint).owner) _ hB_78.blk hB_78.own.sl (by omega) hB_78.rg) ?_
          rintro _ w_102 ⟨rfl, K_103⟩
          replace hb_30 := hb_30.ext K_103
          replace hB_67 := hB_67.ext K_103
          replace hB_78 := hB_78.ext K_103
          replace ho_87 := ho_87.ext K_103
          replace K0 := K0.ext K_103
          refine ⟨.inr ⟨hb_30, trivial⟩, ?_⟩
          refine RT.gtakeP (v := .bool (false)) 20 rfl (by kernel_rfl) (.inr ⟨hb_30, trivial⟩) (wantedF1 rfl rfl rfl rfl) (fun hg _ => (litF (x_neI rfl rfl) (by simp))) ?_
          refine RT.takeP (v := .bool (false)) 21 rfl (by kernel_rfl) (.inr ⟨hb_30, trivial⟩) (fun _ => (x_orF rfl rfl rfl)) ?_
          refine RT.takeP (v := .bool (false)) 22 rfl (by kernel_rfl) (.inr ⟨hb_30, trivial⟩) (fun _ => (x_moveB rfl)) ?_
          refine RT.gtakeP (v := .slice (a_84) (((L_76.map cv).map (·.h)).length) (c_85)) 23 rfl (by kernel_rfl) (.inr ⟨hb_30, trivial⟩) (wantedF1 rfl rfl rfl rfl) (fun hg _ => (x_moveSl rfl)) ?_
          refine RT.gtakeP (v := .pointer (some ⟨b_7, 0, none⟩)) 24 rfl (by kernel_rfl) (.inr ⟨hb_30, trivial⟩) (wantedF1 rfl rfl rfl rfl) (fun hg _ => (x_moveP rfl)) ?_
          refine RT.gst 25 rfl (by kernel_rfl) (wantedF1 rfl rfl rfl rfl) <| St1.call (vals := [.pointer (some ⟨b_7, 0, none⟩)]) en31 rfl (hintsR _ _ _ L_76 now _ hB_78.blk hB_78.own.sl (by omega)) ?_
          rintro _ w_106 ⟨a_104, c_105, rfl, ho_107, hg_108, K_109⟩
          have pr_110 : ¬ own a_104 b_27 := notNew hg_108 hb_30.lt
          have pr_111 : ∀ q_, own a_104 q_ → ¬ boxS b_1 al_64 q_ := apartNew hg_108 hB_67.own_lt
          have pr_112 : ∀ q_, own a_104 q_ → ¬ boxS b_7 al_74 q_ := apartNew hg_108 hB_78.own_lt
          have pr_113 : ∀ q_, own a_104 q_ → ¬ own a_84 q_ := apartNew hg_108 ho_87.own_lt
          have pg_114 : ∀ q_, own a_104 q_ → w.heap.size ≤ q_ := fun q_ h => Nat.le_trans K0.size (hg_108 q_ h)
          clear hg_108
          replace hb_30 := hb_30.ext K_109
          replace hB_67 := hB_67.ext K_109
          replace hB_78 := hB_78.ext K_109
          replace ho_87 := ho_87.ext K_109
          replace K0 := K0.ext K_109
          refine ⟨.inr ⟨hb_30, trivial⟩, ?_⟩
          refine RT.gst 26 rfl (by kernel_rfl) (wantedF1 rfl rfl rfl rfl) <| St1.call (vals := [.slice (a_84) (((L_76.map cv).map (·.h)).length) (c_85), .slice (a_104) (((L_76.map cv).map (·.h)).length) (c_105)]) en20 rfl (equal_hint _ _ _ _ _ _ _ ho_87.sl ho_107.sl (by omega)) ?_
          rintro _ w_115 ⟨rfl, K_116⟩
          replace hb_30 := hb_30.ext K_116
          replace hB_67 := hB_67.ext K_116
          replace hB_78 := hB_78.ext K_116
          replace ho_87 := ho_87.ext K_116
          replace ho_107 := ho_107.ext K_116
          replace K0 := K0.ext K_116
          refine ⟨.inr ⟨hb_30, trivial⟩, ?_⟩
          refine RT.gtakeP (v := .bool (false)) 27 rfl (by kernel_rfl) (.inr ⟨hb_30, trivial⟩) (wantedF1 rfl rfl rfl rfl) (fun hg _ => (litF (x_not rfl) (by simp))) ?_
          refine RT.takeP (v := .bool (false)) 28 rfl (by kernel_rfl) (.inr ⟨hb_30, trivial⟩) (fun _ => (x_orF rfl rfl rfl)) ?_
          refine RT.done (by kernel_rfl) ?_
          refine Run.condF rfl ?_
          refine Run.skip ?_
          refine Run.seq ?_
          refine Run.region ?_
          refine RL.val (x_moveSl rfl) ?_
          refine RL.val (x_lenSl Try.underlying35 rfl) ?_
          refine RL.val (x_moveI rfl) ?_
          refine RL.nil ?_
          refine Run.block ?_
          refine Run.loop (ι := Nat) (fun k ρ' w' => ∃ lh : List Hint, ∃ ah : Option Addr, ∃ ch : Nat, Holds ρ' [(3, .pointer (some ⟨b_1, 0, none⟩)), (4, .pointer (some ⟨b_7, 0, none⟩)), (8, .slice (ah) (((L_76.map cv).map (·.h)).length) (ch)), (13, .slice (as0) (script.length) (cs0)), (14, .int .i64 (((script.length : Nat) : Int))), (15, .int .i64 (((i : Nat) : Int))), (16, .bool (decide (((i : Nat) : Int) < ((script.length : Nat) : Int)))), (104, .int .i64 (((((L_76.map cv).map (·.h)).length : Nat) : Int))), (105, .int .i64 (((k : Nat) : Int)))] ∧ Ext w w' ∧ (Blk w' b_27 [.int .i64 ((o).op), .int .i64 (((o).hint).owner), .string (((o).hint).key), .int .i64 ((o).now), .slice ((o).up.a) ((o).up.len) ((o).up.cap)] 63) ∧ (BoxAt w' b_1 al_64 cl_65 (L_76.map cv) now) ∧ (RBoxAt w' b_7 al_74 cl_75 L_76 now) ∧ (OwnSl w' 42 (a_104) (c_105) ((L_76.map cv).map (·.h))) ∧ (OwnSl w' 42 ah ch (lh)) ∧ (¬ own ah b_27) ∧ (∀ q_, own ah q_ → ¬ boxS b_1 al_64 q_) ∧ (∀ q_, own ah q_ → ¬ boxS b_7 al_74 q_) ∧ (∀ q_, own ah q_ → ¬ own a_104 q_) ∧ (∀ q_, own ah q_ → w.heap.size ≤ q_) ∧ (k ≤ ((L_76.map cv).map (·.h)).length) ∧ (lh.length = ((L_76.map cv).map (·.h)).length)) (fun k => ((L_76.map cv).map (·.h)).length - k) 0 ?_ ?_
          · refine ⟨_, _, _, ⟨rfl, rfl, rfl, rfl, rfl, rfl, rfl, rfl, rfl, trivial⟩, K0, hb_30, hB_67, hB_78, ho_107, ho_87, pr_90, pr_91, pr_92, (fun q_ h1 h2 => pr_113 q_ h2 h1), pg_93, ?_, ?_⟩
            · omega
            · rfl
          clear hb_30 hB_67 hB_78 ho_87 ho_107
          clear K0
          rintro k ρ_125 w_117 ⟨lh, ah, ch, hH_118, K0, hb_30, hB_67, hB_78, ho_107, ho_119, pr_120, pr_121, pr_122, pr_123, pr_124, hk, hlh⟩ ih2
          obtain ⟨ρ₀, rfl⟩ := hH_118.ex
          clear hH_118
          refine Run.seq ?_
          refine Run.region ?_
          refine RL.val (x_ltI rfl rfl) ?_
          refine RL.nil ?_
          refine Run.seq ?_
          refine Run.cond rfl (fun hc106 => ?_) (fun hc106 => ?_)
          · try simp only [br] at hc106
            refine Run.skip ?_
            refine Run.seq ?_
            refine Run.block ?_
            refine Run.seq ?_
            refine Run.region ?_
            refine RL.val (x_moveI rfl) ?_
            refine RL.val (x_assignI rfl) ?_
            refine RL.nil ?_
            refine Run.region ?_
            refine RL.val (x_moveSl rfl) ?_
            refine RL.val (x_moveI rfl) ?_
            obtain ⟨b_126, o_127, x_130, hx_131, ha_128, hc_129⟩ := ho_119.sl.el (i := k) (by first | omega | (simp only [List.length_set]; omega))
            refine RL.val (x_idxN Try.underlying35 ty42 rfl rfl ha_128 (by first | omega | (simp only [List.length_set]; omega))) ?_
            refine RL.val (x_fld (o' := o_127 + k * 2 + 1) Try.underlying42 rfl ty9 rfl rfl rfl) ?_
            refine RL.st rfl <| St1.storeEl (v := .string (⟨#[33]⟩)) (off := 1) (i := k) ({ x_130 with key := ⟨#[33]⟩ }) ty9 rfl rfl rfl (by simp [Value.cells, Value.oneCell']) ho_119 ha_128 hx_131 rfl (by decide) rfl ?_
            intro w_132 ho_134 K_133
            clear hc_129
            replace hb_30 := hb_30.keep K_133 pr_120
            replace hB_67 := hB_67.keepO K_133 (fun q_ h1 h2 => pr_121 q_ h2 h1)
            replace hB_78 := hB_78.keepO K_133 (fun q_ h1 h2 => pr_122 q_ h2 h1)
            replace ho_107 := ho_107.keepO K_133 (fun q_ h1 h2 => pr_123 q_ h2 h1)
            replace K0 := K0.new K_133 pr_124
            replace ho_119 := ho_134
            clear ho_134
            refine RL.nil ?_
            refine Run.inBlock ?_
            refine Run.region ?_
            refine RL.val (litI (c := ((k + 1 : Nat) : Int)) (x_add rfl rfl (by omega) (by omega)) rfl) ?_
            refine RL.val (x_moveI rfl) ?_
            refine RL.nil ?_
            refine ih2 (k + 1) _ _ ?_ (by omega)
            refine ⟨_, _, _, ⟨rfl, rfl, rfl, rfl, rfl, rfl, rfl, rfl, rfl, trivial⟩, K0, hb_30, hB_67, hB_78, ho_107, ho_119, pr_120, pr_121, pr_122, pr_123, pr_124, ?_, ?_⟩
            · omega
            · rw [List.length_set]; exact hlh
          · try simp only [br] at hc106
            refine Run.exit rfl ?_
            refine Run.inBlock ?_
            refine Run.region ?_
            refine RL.val (litI (c := ((i + 1 : Nat) : Int)) (x_add rfl rfl (by omega) (by omega)) rfl) ?_
            refine RL.val (x_moveI rfl) ?_
            refine RL.nil ?_
            refine ih1 (i + 1) _ _ ?_ (by omega)
            refine ⟨_, _, _, _, _, _, ⟨rfl, rfl, rfl, rfl, rfl, trivial⟩, K0, hB_67, hB_78, (fun q_ h1 h2 => pr_82 q_ h2 h1), pg_73, pg_83, ?_, ?_, ?_⟩
            · omega
            · omega
            · omega
        · try simp only [br] at hc49
          refine Run.seq ?_
          refine Run.region ?_
          refine RL.val (x_eqI rfl rfl) ?_
          refine RL.val (x_assignB rfl) ?_
          refine RL.nil ?_
          refine Run.cond rfl (fun hc61 => ?_) (fun hc61 => ?_)
          · try simp only [br] at hc61
            refine Run.seq ?_
            refine Run.drawT [] (m := 9) (by kernel_rfl) rfl ?_
            intro w_135 K_136
            replace hO_15 := hO_15.ext K_136
            replace hO_16 := hO_16.ext K_136
            replace hb_30 := hb_30.ext K_136
            replace K0 := K0.ext K_136
            refine ⟨fun w' => Blk w' b_27 [.int .i64 ((o).op), .int .i64 (((o).hint).owner), .string (((o).hint).key), .int .i64 ((o).now), .slice ((o).up.a) ((o).up.len) ((o).up.cap)] 63 ∧ True, ?_⟩
            refine RT.takeP (v := .pointer (some ⟨b_1, 0, none⟩)) 0 rfl (by kernel_rfl) (.inr ⟨hb_30, trivial⟩) (fun _ => (x_moveP rfl)) ?_
            refine RT.takeP (v := .pointer (some ⟨b_27, 1, none⟩)) 1 rfl (by kernel_rfl) (.inr ⟨hb_30, trivial⟩) (fun _ => (x_fld (o' := 1) Try.underlying63 rfl ty42 rfl rfl rfl)) ?_
            refine RT.take (v := .agg #[.int .i64 (((o).hint).owner), .string (((o).hint).key)]) 2 rfl (by kernel_rfl) ⟨hb_30, trivial⟩ (by rintro _ ⟨hb_30, -⟩; exact (x_lds (cs := #[.int .i64 (((o).hint).owner), .string (((o).hint).key)]) ty42 rfl rfl (hb_30.cl.drop 1 2))) ?_
            refine RT.takeP (v := .pointer (some ⟨b_7, 0, none⟩)) 4 rfl (by kernel_rfl) (.inr ⟨hb_30, trivial⟩) (fun _ => (x_moveP rfl)) ?_
            refine RT.takeP (v := .pointer (some ⟨b_27, 1, none⟩)) 5 rfl (by kernel_rfl) (.inr ⟨hb_30, trivial⟩) (fun _ => (x_fld (o' := 1) Try.underlying63 rfl ty42 rfl rfl rfl)) ?_
            refine RT.take (v := .agg #[.int .i64 (((o).hint).owner), .string (((o).hint).key)]) 6 rfl (by kernel_rfl) ⟨hb_30, trivial⟩ (by rintro _ ⟨hb_30, -⟩; exact (x_lds (cs := #[.int .i64 (((o).hint).owner), .string (((o).hint).key)]) ty42 rfl rfl (hb_30.cl.drop 1 2))) ?_
            refine RT.st 3 rfl (by kernel_rfl) rfl <| St1.call (vals := [.pointer (some ⟨b_1, 0, none⟩), .agg #[.int .i64 (((o).hint).owner), .string (((o).hint).key)]]) en22 rfl (dropB _ _ _ (L.map cv) now ((o).hint) _ hO_15 (by omega) (by omega)) ?_
            rintro _ w_139 ⟨al_137, cl_138, rfl, hB_140, hm_141, K_142⟩
            have pr_144 : ∀ q_, boxS b_1 al_137 q_ → ¬ boxS b_7 alr q_ := hm_141.apart pr_17 hO_16.own_lt
            have pr_145 : ¬ boxS b_1 al_137 b_27 := hm_141.not pr_33 hb_30.lt
            have pg_146 : ∀ q_, boxS b_1 al_137 q_ → w.heap.size ≤ q_ := hm_141.ge pr_18 K0.size
            replace hO_16 := hO_16.keepO K_142 (fun q_ h1 h2 => pr_17 q_ h2 h1)
            replace hb_30 := hb_30.keep K_142 pr_33
            replace K0 := K0.new K_142 pr_18
            clear hm_141
            refine ⟨.inr ⟨hb_30, trivial⟩, ?_⟩
            refine RT.st 7 rfl (by kernel_rfl) rfl <| St1.call (vals := [.pointer (some ⟨b_7, 0, none⟩), .agg #[.int .i64 (((o).hint).owner), .string (((o).hint).key)]]) en27 rfl (dropR _ _ _ L now ((o).hint) _ hO_16 (by omega) (by omega)) ?_
            rintro _ w_150 ⟨al_147, cl_148, L_149, rfl, hB_151, hcv, hm_152, K_153⟩
            have pr_154 : ¬ boxS b_7 al_147 b_27 := hm_152.not pr_34 hb_30.lt
            have pr_155 : ∀ q_, boxS b_7 al_147 q_ → ¬ boxS b_1 al_137 q_ := hm_152.apart (fun q_ h1 h2 => pr_144 q_ h2 h1) hB_140.own_lt
            have pg_156 : ∀ q_, boxS b_7 al_147 q_ → w.heap.size ≤ q_ := hm_152.ge pr_19 K0.size
            replace hb_30 := hb_30.keep K_153 pr_34
            replace hB_140 := hB_140.keepO K_153 pr_144
            replace K0 := K0.new K_153 pr_19
            clear hm_152
            refine ⟨.inr ⟨hb_30, trivial⟩, ?_⟩
            refine RT.takeP (v := .bool (false)) 8 rfl (by kernel_rfl) (.inr ⟨hb_30, trivial⟩) (fun _ => (litF (x_neI rfl rfl) (by simp))) ?_
            refine RT.done (by kernel_rfl) ?_
            have hL1 : L_149.length ≤ 256 := len_cv hcv (dropL_len (by rw [List.length_map]; omega))
            rw [← hcv] at hB_140
            clear hcv
            have hlm : (L_149.map cv).length = L_149.length := List.length_map ..
            have hlm2 : ((L_149.map cv).map (·.h)).length = L_149.length := by rw [List.length_map, List.length_map]
            refine Run.condF rfl ?_
            refine Run.skip ?_
            refine Run.inBlock ?_
            refine Run.seq ?_
            refine Run.region ?_
            refine RL.val (x_moveP rfl) ?_
            refine RL.st rfl <| St1.call (vals := [.pointer (some ⟨b_1, 0, none⟩)]) en24 rfl (hintsB _ _ _ (L_149.map cv) now _ hB_140.blk hB_140.own.sl (by omega)) ?_
            rintro _ w_159 ⟨a_157, c_158, rfl, ho_160, hg_161, K_162⟩
            have pr_163 : ¬ own a_157 b_27 := notNew hg_161 hb_30.lt
            have pr_164 : ∀ q_, own a_157 q_ → ¬ boxS b_1 al_137 q_ := apartNew hg_161 hB_140.own_lt
            have pr_165 : ∀ q_, own a_157 q_ → ¬ boxS b_7 al_147 q_ := apartNew hg_161 hB_151.own_lt
            have pg_166 : ∀ q_, own a_157 q_ → w.heap.size ≤ q_ := fun q_ h => Nat.le_trans K0.size (hg_161 q_ h)
            clear hg_161
            replace hb_30 := hb_30.ext K_162
            replace hB_140 := hB_140.ext K_162
            replace hB_151 := hB_151.ext K_162
            replace K0 := K0.ext K_162
            refine RL.val (x_assignSl rfl) ?_
            refine RL.nil ?_
            refine Run.seq ?_
            refine Run.seq ?_
            refine Run.drawT [] (m := 29) (by kernel_rfl) rfl ?_
            intro w_167 K_168
            replace hb_30 := hb_30.ext K_168
            replace hB_140 := hB_140.ext K_168
            replace hB_151 := hB_151.ext K_168
            replace ho_160 := ho_160.ext K_168
            replace K0 := K0.ext K_168
            refine ⟨fun w' => Blk w' b_27 [.int .i64 ((o).op), .int .i64 (((o).hint).owner), .string (((o).hint).key), .int .i64 ((o).now), .slice ((o).up.a) ((o).up.len) ((o).up.cap)] 63 ∧ True, ?_⟩
            refine RT.takeP (v := .pointer (some ⟨b_1, 0, none⟩)) 0 rfl (by kernel_rfl) (.inr ⟨hb_30, trivial⟩) (fun _ => (x_moveP rfl)) ?_
            refine RT.takeP (v := .pointer (some ⟨b_27, 1, none⟩)) 1 rfl (by kernel_rfl) (.inr ⟨hb_30, trivial⟩) (fun _ => (x_fld (o' := 1) Try.underlying63 rfl ty42 rfl rfl rfl)) ?_
            refine RT.take (v := .agg #[.int .i64 (((o).hint).owner), .string (((o).hint).key)]) 2 rfl (by kernel_rfl) ⟨hb_30, trivial⟩ (by rintro _ ⟨hb_30, -⟩; exact (x_lds (cs := #[.int .i64 (((o).hint).owner), .string (((o).hint).key)]) ty42 rfl rfl (hb_30.cl.drop 1 2))) ?_
            refine RT.takeP (v := .pointer (some ⟨b_7, 0, none⟩)) 4 rfl (by kernel_rfl) (.inr ⟨hb_30, trivial⟩) (fun _ => (x_moveP rfl)) ?_
            refine RT.takeP (v := .pointer (some ⟨b_27, 1, none⟩)) 5 rfl (by kernel_rfl) (.inr ⟨hb_30, trivial⟩) (fun _ => (x_fld (o' := 1) Try.underlying63 rfl ty42 rfl rfl rfl)) ?_
            refine RT.take (v := .agg #[.int .i64 (((o).hint).owner), .string (((o).hint).key)]) 6 rfl (by kernel_rfl) ⟨hb_30, trivial⟩ (by rintro _ ⟨hb_30, -⟩; exact (x_lds (cs := #[.int .i64 (((o).hint).owner), .string (((o).hint).key)]) ty42 rfl rfl (hb_30.cl.drop 1 2))) ?_
            refine RT.st 3 rfl (by kernel_rfl) rfl <| St1.call (vals := [.pointer (some ⟨b_1, 0, none⟩), .agg #[.int .i64 (((o).hint).owner), .string (((o).hint).key)]]) en23 rfl (hasB _ _ _ (L_149.map cv) now ((o).hint) _ hB_140.blk hB_140.own.sl (by omega)) ?_
            rintro _ w_169 ⟨rfl, K_170⟩
            replace hb_30 := hb_30.ext K_170
            replace hB_140 := hB_140.ext K_170
            replace hB_151 := hB_151.ext K_170
            replace ho_160 := ho_160.ext K_170
            replace K0 := K0.ext K_170
            refine ⟨.inr ⟨hb_30, trivial⟩, ?_⟩
            refine RT.st 7 rfl (by kernel_rfl) rfl <| St1.call (vals := [.pointer (some ⟨b_7, 0, none⟩), .agg #[.int .i64 (((o).hint).owner), .string (((o).hint).key)]]) en29 rfl (hasR _ _ _ L_149 now ((o).hint) _ hB_151.blk hB_151.own.sl (by omega)) ?_
            rintro _ w_171 ⟨rfl, K_172⟩
            replace hb_30 := hb_30.ext K_172
            replace hB_140 := hB_140.ext K_172
            replace hB_151 := hB_151.ext K_172
            replace ho_160 := ho_160.ext K_172
            replace K0 := K0.ext K_172
            refine ⟨.inr ⟨hb_30, trivial⟩, ?_⟩
            refine RT.takeP (v := .bool (false)) 8 rfl (by kernel_rfl) (.inr ⟨hb_30, trivial⟩) (fun _ => (litF (x_neB Try.underlying4 rfl rfl) (by simp))) ?_
            refine RT.takeP (v := .bool (false)) 9 rfl (by kernel_rfl) (.inr ⟨hb_30, trivial⟩) (fun _ => (x_moveB rfl)) ?_
            refine RT.gtakeP (v := .pointer (some ⟨b_1, 0, none⟩)) 10 rfl (by kernel_rfl) (.inr ⟨hb_30, trivial⟩) (wantedF1 rfl rfl rfl rfl) (fun hg _ => (x_moveP rfl)) ?_
            refine RT.gtakeP (v := .pointer (some ⟨b_27, 1, none⟩)) 11 rfl (by kernel_rfl) (.inr ⟨hb_30, trivial⟩) (wantedF1 rfl rfl rfl rfl) (fun hg _ => (x_fld (o' := 1) Try.underlying63 rfl ty42 rfl rfl rfl)) ?_
            refine RT.gtakeP (v := .pointer (some ⟨b_27, 1, none⟩)) 12 rfl (by kernel_rfl) (.inr ⟨hb_30, trivial⟩) (wantedF1 rfl rfl rfl rfl) (fun hg _ => (x_fld (o' := 1) Try.underlying42 rfl ty3 rfl rfl rfl)) ?_
            refine RT.gtake (v := .int .i64 (((o).hint).owner)) 13 rfl (by kernel_rfl) ⟨hb_30, trivial⟩ (wantedF1 rfl rfl rfl rfl) (fun hg => by rintro _ ⟨hb_30, -⟩; exact (x_ld (v := .int .i64 (((o).hint).owner)) ty3 rfl rfl (hb_30.cl.field (i := 1) rfl))) ?_
            refine RT.gtakeP (v := .pointer (some ⟨b_7, 0, none⟩)) 15 rfl (by kernel_rfl) (.inr ⟨hb_30, trivial⟩) (wantedF1 rfl rfl rfl rfl) (fun hg _ => (x_moveP rfl)) ?_
            refine RT.gtakeP (v := .pointer (some ⟨b_27, 1, none⟩)) 16 rfl (by kernel_rfl) (.inr ⟨hb_30, trivial⟩) (wantedF1 rfl rfl rfl rfl) (fun hg _ => (x_fld (o' := 1) Try.underlying63 rfl ty42 rfl rfl rfl)) ?_
            refine RT.gtakeP (v := .pointer (some ⟨b_27, 1, none⟩)) 17 rfl (by kernel_rfl) (.inr ⟨hb_30, trivial⟩) (wantedF1 rfl rfl rfl rfl) (fun hg _ => (x_fld (o' := 1) Try.underlying42 rfl ty3 rfl rfl rfl)) ?_
            refine RT.gtake (v := .int .i64 (((o).hint).owner)) 18 rfl (by kernel_rfl) ⟨hb_30, trivial⟩ (wantedF1 rfl rfl rfl rfl) (fun hg => by rintro _ ⟨hb_30, -⟩; exact (x_ld (v := .int .i64 (((o).hint).owner)) ty3 rfl rfl (hb_30.cl.field (i := 1) rfl))) ?_
            refine RT.gst 14 rfl (by kernel_rfl) (wantedF1 rfl rfl rfl rfl) <| St1.call (vals := [.pointer (some ⟨b_1, 0, none⟩), .int .i64 (((o).hint).owner)]) en21 rfl (countP16 _ _ _ (L_149.map cv) now (((o).hint).owner) _ hB_140.blk hB_140.own.sl (by omega)) ?_
            rintro _ w_173 ⟨rfl, K_174⟩
            replace hb_30 := hb_30.ext K_174
            replace hB_140 := hB_140.ext K_174
            replace hB_151 := hB_151.ext K_174
            replace ho_160 := ho_160.ext K_174
            replace K0 := K0.ext K_174
            refine ⟨.inr ⟨hb_30, trivial⟩, ?_⟩
            refine RT.gst 19 rfl (by kernel_rfl) (wantedF1 rfl rfl rfl rfl) <| St1.call (vals := [.pointer (some ⟨b_7, 0, none⟩), .int .i64 (((o).hint).owner)]) en30 rfl (countR16 _ _ _ L_149 now (((o).hint).owner) _ hB_151.blk hB_151.own.sl (by omega) hB_151.rg) ?_
            rintro _ w_175 ⟨rfl, K_176⟩
            replace hb_30 := hb_30.ext K_176
            replace hB_140 := hB_140.ext K_176
            replace hB_151 := hB_151.ext K_176
            replace ho_160 := ho_160.ext K_176
            replace K0 := K0.ext K_176
            refine ⟨.inr ⟨hb_30, trivial⟩, ?_⟩
            refine RT.gtakeP (v := .bool (false)) 20 rfl (by kernel_rfl) (.inr ⟨hb_30, trivial⟩) (wantedF1 rfl rfl rfl rfl) (fun hg _ => (litF (x_neI rfl rfl) (by simp))) ?_
            refine RT.takeP (v := .bool (false)) 21 rfl (by kernel_rfl) (.inr ⟨hb_30, trivial⟩) (fun _ => (x_orF rfl rfl rfl)) ?_
            refine RT.takeP (v := .bool (false)) 22 rfl (by kernel_rfl) (.inr ⟨hb_30, trivial⟩) (fun _ => (x_moveB rfl)) ?_
            refine RT.gtakeP (v := .slice (a_157) (((L_149.map cv).map (·.h)).length) (c_158)) 23 rfl (by kernel_rfl) (.inr ⟨hb_30, trivial⟩) (wantedF1 rfl rfl rfl rfl) (fun hg _ => (x_moveSl rfl)) ?_
            refine RT.gtakeP (v := .pointer (some ⟨b_7, 0, none⟩)) 24 rfl (by kernel_rfl) (.inr ⟨hb_30, trivial⟩) (wantedF1 rfl rfl rfl rfl) (fun hg _ => (x_moveP rfl)) ?_
            refine RT.gst 25 rfl (by kernel_rfl) (wantedF1 rfl rfl rfl rfl) <| St1.call (vals := [.pointer (some ⟨b_7, 0, none⟩)]) en31 rfl (hintsR _ _ _ L_149 now _ hB_151.blk hB_151.own.sl (by omega)) ?_
            rintro _ w_179 ⟨a_177, c_178, rfl, ho_180, hg_181, K_182⟩
            have pr_183 : ¬ own a_177 b_27 := notNew hg_181 hb_30.lt
            have pr_184 : ∀ q_, own a_177 q_ → ¬ boxS b_1 al_137 q_ := apartNew hg_181 hB_140.own_lt
            have pr_185 : ∀ q_, own a_177 q_ → ¬ boxS b_7 al_147 q_ := apartNew hg_181 hB_151.own_lt
            have pr_186 : ∀ q_, own a_177 q_ → ¬ own a_157 q_ := apartNew hg_181 ho_160.own_lt
            have pg_187 : ∀ q_, own a_177 q_ → w.heap.size ≤ q_ := fun q_ h => Nat.le_trans K0.size (hg_181 q_ h)
            clear hg_181
            replace hb_30 := hb_30.ext K_182
            replace hB_140 := hB_140.ext K_182
            replace hB_151 := hB_151.ext K_182
            replace ho_160 := ho_160.ext K_182
            replace K0 := K0.ext K_182
            refine ⟨.inr ⟨hb_30, trivial⟩, ?_⟩
            refine RT.gst 26 rfl (by kernel_rfl) (wantedF1 rfl rfl rfl rfl) <| St1.call (vals := [.slice (a_157) (((L_149.map cv).map (·.h)).length) (c_158), .slice (a_177) (((L_149.map cv).map (·.h)).length) (c_178)]) en20 rfl (equal_hint _ _ _ _ _ _ _ ho_160.sl ho_180.sl (by omega)) ?_
            rintro _ w_188 ⟨rfl, K_189⟩
            replace hb_30 := hb_30.ext K_189
            replace hB_140 := hB_140.ext K_189
            replace hB_151 := hB_151.ext K_189
            replace ho_160 := ho_160.ext K_189
            replace ho_180 := ho_180.ext K_189
            replace K0 := K0.ext K_189
            refine ⟨.inr ⟨hb_30, trivial⟩, ?_⟩
            refine RT.gtakeP (v := .bool (false)) 27 rfl (by kernel_rfl) (.inr ⟨hb_30, trivial⟩) (wantedF1 rfl rfl rfl rfl) (fun hg _ => (litF (x_not rfl) (by simp))) ?_
            refine RT.takeP (v := .bool (false)) 28 rfl (by kernel_rfl) (.inr ⟨hb_30, trivial⟩) (fun _ => (x_orF rfl rfl rfl)) ?_
            refine RT.done (by kernel_rfl) ?_
            refine Run.condF rfl ?_
            refine Run.skip ?_
            refine Run.seq ?_
            refine Run.region ?_
            refine RL.val (x_moveSl rfl) ?_
            refine RL.val (x_lenSl Try.underlying35 rfl) ?_
            refine RL.val (x_moveI rfl) ?_
            refine RL.nil ?_
            refine Run.block ?_
            refine Run.loop (ι := Nat) (fun k ρ' w' => ∃ lh : List Hint, ∃ ah : Option Addr, ∃ ch : Nat, Holds ρ' [(3, .pointer (some ⟨b_1, 0, none⟩)), (4, .pointer (some ⟨b_7, 0, none⟩)), (8, .slice (ah) (((L_149.map cv).map (·.h)).length) (ch)), (13, .slice (as0) (script.length) (cs0)), (14, .int .i64 (((script.length : Nat) : Int))), (15, .int .i64 (((i : Nat) : Int))), (16, .bool (decide (((i : Nat) : Int) < ((script.length : Nat) : Int)))), (104, .int .i64 (((((L_149.map cv).map (·.h)).length : Nat) : Int))), (105, .int .i64 (((k : Nat) : Int)))] ∧ Ext w w' ∧ (Blk w' b_27 [.int .i64 ((o).op), .int .i64 (((o).hint).owner), .string (((o).hint).key), .int .i64 ((o).now), .slice ((o).up.a) ((o).up.len) ((o).up.cap)] 63) ∧ (BoxAt w' b_1 al_137 cl_138 (L_149.map cv) now) ∧ (RBoxAt w' b_7 al_147 cl_148 L_149 now) ∧ (OwnSl w' 42 (a_177) (c_178) ((L_149.map cv).map (·.h))) ∧ (OwnSl w' 42 ah ch (lh)) ∧ (¬ own ah b_27) ∧ (∀ q_, own ah q_ → ¬ boxS b_1 al_137 q_) ∧ (∀ q_, own ah q_ → ¬ boxS b_7 al_147 q_) ∧ (∀ q_, own ah q_ → ¬ own a_177 q_) ∧ (∀ q_, own ah q_ → w.heap.size ≤ q_) ∧ (k ≤ ((L_149.map cv).map (·.h)).length) ∧ (lh.length = ((L_149.map cv).map (·.h)).length)) (fun k => ((L_149.map cv).map (·.h)).length - k) 0 ?_ ?_
            · refine ⟨_, _, _, ⟨rfl, rfl, rfl, rfl, rfl, rfl, rfl, rfl, rfl, trivial⟩, K0, hb_30, hB_140, hB_151, ho_180, ho_160, pr_163, pr_164, pr_165, (fun q_ h1 h2 => pr_186 q_ h2 h1), pg_166, ?_, ?_⟩
              · omega
              · rfl
            clear hb_30 hB_140 hB_151 ho_160 ho_180
            clear K0
            rintro k ρ_198 w_190 ⟨lh, ah, ch, hH_191, K0, hb_30, hB_140, hB_151, ho_180, ho_192, pr_193, pr_194, pr_195, pr_196, pr_197, hk, hlh⟩ ih3
            obtain ⟨ρ₀, rfl⟩ := hH_191.ex
            clear hH_191
            refine Run.seq ?_
            refine Run.region ?_
            refine RL.val (x_ltI rfl rfl) ?_
            refine RL.nil ?_
            refine Run.seq ?_
            refine Run.cond rfl (fun hc106 => ?_) (fun hc106 => ?_)
            · try simp only [br] at hc106
              refine Run.skip ?_
              refine Run.seq ?_
              refine Run.block ?_
              refine Run.seq ?_
              refine Run.region ?_
              refine RL.val (x_moveI rfl) ?_
              refine RL.val (x_assignI rfl) ?_
              refine RL.nil ?_
              refine Run.region ?_
              refine RL.val (x_moveSl rfl) ?_
              refine RL.val (x_moveI rfl) ?_
              obtain ⟨b_199, o_200, x_203, hx_204, ha_201, hc_202⟩ := ho_192.sl.el (i := k) (by first | omega | (simp only [List.length_set]; omega))
              refine RL.val (x_idxN Try.underlying35 ty42 rfl rfl ha_201 (by first | omega | (simp only [List.length_set]; omega))) ?_
              refine RL.val (x_fld (o' := o_200 + k * 2 + 1) Try.underlying42 rfl ty9 rfl rfl rfl) ?_
              refine RL.st rfl <| St1.storeEl (v := .string (⟨#[33]⟩)) (off := 1) (i := k) ({ x_203 with key := ⟨#[33]⟩ }) ty9 rfl rfl rfl (by simp [Value.cells, Value.oneCell']) ho_192 ha_201 hx_204 rfl (by decide) rfl ?_
              intro w_205 ho_207 K_206
              clear hc_202
              replace hb_30 := hb_30.keep K_206 pr_193
              replace hB_140 := hB_140.keepO K_206 (fun q_ h1 h2 => pr_194 q_ h2 h1)
              replace hB_151 := hB_151.keepO K_206 (fun q_ h1 h2 => pr_195 q_ h2 h1)
              replace ho_180 := ho_180.keepO K_206 (fun q_ h1 h2 => pr_196 q_ h2 h1)
              replace K0 := K0.new K_206 pr_197
              replace ho_192 := ho_207
              clear ho_207
              refine RL.nil ?_
              refine Run.inBlock ?_
              refine Run.region ?_
              refine RL.val (litI (c := ((k + 1 : Nat) : Int)) (x_add rfl rfl (by omega) (by omega)) rfl) ?_
              refine RL.val (x_moveI rfl) ?_
              refine RL.nil ?_
              refine ih3 (k + 1) _ _ ?_ (by omega)
              refine ⟨_, _, _, ⟨rfl, rfl, rfl, rfl, rfl, rfl, rfl, rfl, rfl, trivial⟩, K0, hb_30, hB_140, hB_151, ho_180, ho_192, pr_193, pr_194, pr_195, pr_196, pr_197, ?_, ?_⟩
              · omega
              · rw [List.length_set]; exact hlh
            · try simp only [br] at hc106
              refine Run.exit rfl ?_
              refine Run.inBlock ?_
              refine Run.region ?_
              refine RL.val (litI (c := ((i + 1 : Nat) : Int)) (x_add rfl rfl (by omega) (by omega)) rfl) ?_
              refine RL.val (x_moveI rfl) ?_
              refine RL.nil ?_
              refine ih1 (i + 1) _ _ ?_ (by omega)
              refine ⟨_, _, _, _, _, _, ⟨rfl, rfl, rfl, rfl, rfl, trivial⟩, K0, hB_140, hB_151, (fun q_ h1 h2 => pr_155 q_ h2 h1), pg_146, pg_156, ?_, ?_, ?_⟩
              · omega
              · omega
              · omega
          · try simp only [br] at hc61
            refine Run.seq ?_
            refine Run.region ?_
            refine RL.val (x_fld (o' := 4) Try.underlying63 rfl ty22 rfl rfl rfl) ?_
            refine RL.val (litSl (m' := up.length) (x_ld (v := .slice ((o).up.a) ((o).up.len) ((o).up.cap)) ty22 rfl rfl (hb_30.cl.field (i := 4) rfl)) hul) ?_
            refine RL.st rfl <| St1.call (vals := [.slice ((o).up.a) (up.length) ((o).up.cap)]) en10 rfl (clone_int _ _ _ _ (hus.ext K0) (by omega)) ?_
            rintro _ w_210 ⟨a_208, c_209, rfl, ho_211, hg_212, K_213⟩
            have pr_214 : ∀ q_, own a_208 q_ → ¬ boxS b_1 alb q_ := apartNew hg_212 hO_15.own_lt
            have pr_215 : ∀ q_, own a_208 q_ → ¬ boxS b_7 alr q_ := apartNew hg_212 hO_16.own_lt
            have pr_216 : ¬ own a_208 b_27 := notNew hg_212 hb_30.lt
            have pg_217 : ∀ q_, own a_208 q_ → w.heap.size ≤ q_ := fun q_ h => Nat.le_trans K0.size (hg_212 q_ h)
            clear hg_212
            replace hO_15 := hO_15.ext K_213
            replace hO_16 := hO_16.ext K_213
            replace hb_30 := hb_30.ext K_213
            replace K0 := K0.ext K_213
            refine RL.val (x_assignSl rfl) ?_
            refine RL.nil ?_
            refine Run.seq ?_
            have hT5 := due_T5 (max now o.now) (L.map cv) up
            refine Run.drawT [] (m := 20) (by kernel_rfl) rfl ?_
            intro w_218 K_219
            replace hO_15 := hO_15.ext K_219
            replace hO_16 := hO_16.ext K_219
            replace hb_30 := hb_30.ext K_219
            replace ho_211 := ho_211.ext K_219
            replace K0 := K0.ext K_219
            refine ⟨fun w' => Blk w' b_27 [.int .i64 ((o).op), .int .i64 (((o).hint).owner), .string (((o).hint).key), .int .i64 ((o).now), .slice ((o).up.a) ((o).up.len) ((o).up.cap)] 63 ∧ True, ?_⟩
            refine RT.takeP (v := .pointer (some ⟨b_1, 0, none⟩)) 0 rfl (by kernel_rfl) (.inr ⟨hb_30, trivial⟩) (fun _ => (x_moveP rfl)) ?_
            refine RT.takeP (v := .pointer (some ⟨b_27, 3, none⟩)) 1 rfl (by kernel_rfl) (.inr ⟨hb_30, trivial⟩) (fun _ => (x_fld (o' := 3) Try.underlying63 rfl ty3 rfl rfl rfl)) ?_
            refine RT.take (v := .int .i64 ((o).now)) 2 rfl (by kernel_rfl) ⟨hb_30, trivial⟩ (by rintro _ ⟨hb_30, -⟩; exact (x_ld (v := .int .i64 ((o).now)) ty3 rfl rfl (hb_30.cl.field (i := 3) rfl))) ?_
            refine RT.takeP (v := .slice (a_208) (up.length) (c_209)) 3 rfl (by kernel_rfl) (.inr ⟨hb_30, trivial⟩) (fun _ => (x_moveSl rfl)) ?_
            refine RT.takeP (v := .pointer (some ⟨b_7, 0, none⟩)) 5 rfl (by kernel_rfl) (.inr ⟨hb_30, trivial⟩) (fun _ => (x_moveP rfl)) ?_
            refine RT.takeP (v := .pointer (some ⟨b_27, 3, none⟩)) 6 rfl (by kernel_rfl) (.inr ⟨hb_30, trivial⟩) (fun _ => (x_fld (o' := 3) Try.underlying63 rfl ty3 rfl rfl rfl)) ?_
            refine RT.take (v := .int .i64 ((o).now)) 7 rfl (by kernel_rfl) ⟨hb_30, trivial⟩ (by rintro _ ⟨hb_30, -⟩; exact (x_ld (v := .int .i64 ((o).now)) ty3 rfl rfl (hb_30.cl.field (i := 3) rfl))) ?_
            refine RT.takeP (v := .pointer (some ⟨b_27, 4, none⟩)) 8 rfl (by kernel_rfl) (.inr ⟨hb_30, trivial⟩) (fun _ => (x_fld (o' := 4) Try.underlying63 rfl ty22 rfl rfl rfl)) ?_
            refine RT.take (v := .slice ((o).up.a) (up.length) ((o).up.cap)) 9 rfl (by kernel_rfl) ⟨hb_30, trivial⟩ (by rintro _ ⟨hb_30, -⟩; exact (litSl (m' := up.length) (x_ld (v := .slice ((o).up.a) ((o).up.len) ((o).up.cap)) ty22 rfl rfl (hb_30.cl.field (i := 4) rfl)) hul)) ?_
            refine RT.st 4 rfl (by kernel_rfl) rfl <| St1.call (vals := [.pointer (some ⟨b_1, 0, none⟩), .int .i64 ((o).now), .slice (a_208) (up.length) (c_209)]) en18 rfl (dueB _ _ _ (L.map cv) now ((o).now) _ up _ _ hO_15 (by first | omega | decide) ho_211.sl (fun x hx hb => (fun q_ h1 h2 => pr_214 q_ h2 h1) _ hb ⟨x, hx, rfl⟩) (by omega) (by omega) (mem_cv_past hO_16.rg hO_16.n0) hO_16.n0 (by omega) (by omega)) ?_
            rintro _ w_222 ⟨a_220, c_221, rfl, ho_223, hg_224, hB_225, K_226⟩
            have pr_227 : ∀ q_, own a_220 q_ → ¬ boxS b_1 alb q_ := apartNew hg_224 hO_15.own_lt
            have pr_228 : ∀ q_, own a_220 q_ → ¬ boxS b_7 alr q_ := apartNew hg_224 hO_16.own_lt
            have pr_229 : ¬ own a_220 b_27 := notNew hg_224 hb_30.lt
            have pr_230 : ∀ q_, own a_220 q_ → ¬ own a_208 q_ := apartNew hg_224 ho_211.own_lt
            have pg_231 : ∀ q_, own a_220 q_ → w.heap.size ≤ q_ := fun q_ h => Nat.le_trans K0.size (hg_224 q_ h)
            clear hg_224
            replace hO_16 := hO_16.keepO K_226 (fun q_ h1 h2 => pr_17 q_ h2 h1)
            replace hb_30 := hb_30.keep K_226 pr_33
            replace ho_211 := ho_211.keepO K_226 pr_214
            replace K0 := K0.new K_226 pr_18
            replace hO_15 := hB_225
            clear hB_225
            refine ⟨.inr ⟨hb_30, trivial⟩, ?_⟩
            refine RT.st 10 rfl (by kernel_rfl) rfl <| St1.call (vals := [.pointer (some ⟨b_7, 0, none⟩), .int .i64 ((o).now), .slice ((o).up.a) (up.length) ((o).up.cap)]) en28 rfl (dueR _ _ _ L now ((o).now) _ up _ _ hO_16 (by omega) (hus.ext K0) (fun q hq hne hb => (hub q hq).elim (fun h => absurd (pr_19 _ hb) (by omega)) hne) (by omega) (by omega) (by omega)) ?_
            rintro _ w_235 ⟨a_232, c_233, L_234, rfl, ho_236, hg_237, hB_238, hcv, hlv, K_239⟩
            have pr_240 : ∀ q_, own a_232 q_ → ¬ boxS b_1 alb q_ := apartNew hg_237 hO_15.own_lt
            have pr_241 : ∀ q_, own a_232 q_ → ¬ boxS b_7 alr q_ := apartNew hg_237 hO_16.own_lt
            have pr_242 : ¬ own a_232 b_27 := notNew hg_237 hb_30.lt
            have pr_243 : ∀ q_, own a_232 q_ → ¬ own a_208 q_ := apartNew hg_237 ho_211.own_lt
            have pr_244 : ∀ q_, own a_232 q_ → ¬ own a_220 q_ := apartNew hg_237 ho_223.own_lt
            have pg_245 : ∀ q_, own a_232 q_ → w.heap.size ≤ q_ := fun q_ h => Nat.le_trans K0.size (hg_237 q_ h)
            clear hg_237
            replace hO_15 := hO_15.keepO K_239 pr_17
            replace hb_30 := hb_30.keep K_239 pr_34
            replace ho_211 := ho_211.keepO K_239 pr_215
            replace ho_223 := ho_223.keepO K_239 pr_228
            replace K0 := K0.new K_239 pr_19
            replace hO_16 := hB_238
            clear hB_238
            refine ⟨.inr ⟨hb_30, trivial⟩, ?_⟩
            refine RT.st 11 rfl (by kernel_rfl) rfl <| St1.call (vals := [.slice (a_220) (((due (max now ((o).now)) (L.map cv) up).T).length) (c_221), .slice (a_232) (((due (max now ((o).now)) (L.map cv) up).T).length) (c_233)]) en20 rfl (equal_hint _ _ _ _ _ _ _ ho_223.sl ho_236.sl (by omega)) ?_
            rintro _ w_246 ⟨rfl, K_247⟩
            replace hO_15 := hO_15.ext K_247
            replace hO_16 := hO_16.ext K_247
            replace hb_30 := hb_30.ext K_247
            replace ho_211 := ho_211.ext K_247
            replace ho_223 := ho_223.ext K_247
            replace ho_236 := ho_236.ext K_247
            replace K0 := K0.ext K_247
            refine ⟨.inr ⟨hb_30, trivial⟩, ?_⟩
            refine RT.takeP (v := .bool (false)) 12 rfl (by kernel_rfl) (.inr ⟨hb_30, trivial⟩) (fun _ => (litF (x_not rfl) (by simp))) ?_
            refine RT.takeP (v := .bool (false)) 13 rfl (by kernel_rfl) (.inr ⟨hb_30, trivial⟩) (fun _ => (x_moveB rfl)) ?_
            refine RT.gtakeP (v := .slice (a_208) (up.length) (c_209)) 14 rfl (by kernel_rfl) (.inr ⟨hb_30, trivial⟩) (wantedF1 rfl rfl rfl rfl) (fun hg _ => (x_moveSl rfl)) ?_
            refine RT.gtakeP (v := .pointer (some ⟨b_27, 4, none⟩)) 15 rfl (by kernel_rfl) (.inr ⟨hb_30, trivial⟩) (wantedF1 rfl rfl rfl rfl) (fun hg _ => (x_fld (o' := 4) Try.underlying63 rfl ty22 rfl rfl rfl)) ?_
            refine RT.gtake (v := .slice ((o).up.a) (up.length) ((o).up.cap)) 16 rfl (by kernel_rfl) ⟨hb_30, trivial⟩ (wantedF1 rfl rfl rfl rfl) (fun hg => by rintro _ ⟨hb_30, -⟩; exact (litSl (m' := up.length) (x_ld (v := .slice ((o).up.a) ((o).up.len) ((o).up.cap)) ty22 rfl rfl (hb_30.cl.field (i := 4) rfl)) hul)) ?_
            refine RT.gst 17 rfl (by kernel_rfl) (wantedF1 rfl rfl rfl rfl) <| St1.call (vals := [.slice (a_208) (up.length) (c_209), .slice ((o).up.a) (up.length) ((o).up.cap)]) en14 rfl (equal_int _ _ _ _ _ _ _ ho_211.sl (hus.ext K0) (by omega)) ?_
            rintro _ w_248 ⟨rfl, K_249⟩
            replace hO_15 := hO_15.ext K_249
            replace hO_16 := hO_16.ext K_249
            replace hb_30 := hb_30.ext K_249
            replace ho_211 := ho_211.ext K_249
            replace ho_223 := ho_223.ext K_249
            replace ho_236 := ho_236.ext K_249
            replace K0 := K0.ext K_249
            refine ⟨.inr ⟨hb_30, trivial⟩, ?_⟩
            refine RT.gtakeP (v := .bool (false)) 18 rfl (by kernel_rfl) (.inr ⟨hb_30, trivial⟩) (wantedF1 rfl rfl rfl rfl) (fun hg _ => (litF (x_not rfl) (by simp))) ?_
            refine RT.takeP (v := .bool (false)) 19 rfl (by kernel_rfl) (.inr ⟨hb_30, trivial⟩) (fun _ => (x_orF rfl rfl rfl)) ?_
            refine RT.done (by kernel_rfl) ?_
            have hL1 : L_234.length ≤ 256 := len_cv hcv (by rw [due_Ln', List.length_map]; omega)
            rw [← hcv] at hO_15
            clear hcv
            have hlm : (L_234.map cv).length = L_234.length := List.length_map ..
            have hlm2 : ((L_234.map cv).map (·.h)).length = L_234.length := by rw [List.length_map, List.length_map]
            refine Run.condF rfl ?_
            refine Run.skip ?_
            refine Run.inBlock ?_
            refine Run.seq ?_
            refine Run.region ?_
            refine RL.val (x_moveP rfl) ?_
            refine RL.st rfl <| St1.call (vals := [.pointer (some ⟨b_1, 0, none⟩)]) en24 rfl (hintsB _ _ _ (L_234.map cv) (max now ((o).now)) _ hO_15.blk hO_15.own.sl (by omega)) ?_
            rintro _ w_252 ⟨a_250, c_251, rfl, ho_253, hg_254, K_255⟩
            have pr_256 : ∀ q_, own a_250 q_ → ¬ boxS b_1 alb q_ := apartNew hg_254 hO_15.own_lt
            have pr_257 : ∀ q_, own a_250 q_ → ¬ boxS b_7 alr q_ := apartNew hg_254 hO_16.own_lt
            have pr_258 : ¬ own a_250 b_27 := notNew hg_254 hb_30.lt
            have pr_259 : ∀ q_, own a_250 q_ → ¬ own a_208 q_ := apartNew hg_254 ho_211.own_lt
            have pr_260 : ∀ q_, own a_250 q_ → ¬ own a_220 q_ := apartNew hg_254 ho_223.own_lt
            have pr_261 : ∀ q_, own a_250 q_ → ¬ own a_232 q_ := apartNew hg_254 ho_236.own_lt
            have pg_262 : ∀ q_, own a_250 q_ → w.heap.size ≤ q_ := fun q_ h => Nat.le_trans K0.size (hg_254 q_ h)
            clear hg_254
            replace hO_15 := hO_15.ext K_255
            replace hO_16 := hO_16.ext K_255
            replace hb_30 := hb_30.ext K_255
            replace ho_211 := ho_211.ext K_255
            replace ho_223 := ho_223.ext K_255
            replace ho_236 := ho_236.ext K_255
            replace K0 := K0.ext K_255
            refine RL.val (x_assignSl rfl) ?_
            refine RL.nil ?_
            refine Run.seq ?_
            refine Run.seq ?_
            refine Run.drawT [] (m := 29) (by kernel_rfl) rfl ?_
            intro w_263 K_264
            replace hO_15 := hO_15.ext K_264
            replace hO_16 := hO_16.ext K_264
            replace hb_30 := hb_30.ext K_264
            replace ho_211 := ho_211.ext K_264
            replace ho_223 := ho_223.ext K_264
            replace ho_236 := ho_236.ext K_264
            replace ho_253 := ho_253.ext K_264
            replace K0 := K0.ext K_264
            refine ⟨fun w' => Blk w' b_27 [.int .i64 ((o).op), .int .i64 (((o).hint).owner), .string (((o).hint).key), .int .i64 ((o).now), .slice ((o).up.a) ((o).up.len) ((o).up.cap)] 63 ∧ True, ?_⟩
            refine RT.takeP (v := .pointer (some ⟨b_1, 0, none⟩)) 0 rfl (by kernel_rfl) (.inr ⟨hb_30, trivial⟩) (fun _ => (x_moveP rfl)) ?_
            refine RT.takeP (v := .pointer (some ⟨b_27, 1, none⟩)) 1 rfl (by kernel_rfl) (.inr ⟨hb_30, trivial⟩) (fun _ => (x_fld (o' := 1) Try.underlying63 rfl ty42 rfl rfl rfl)) ?_
            refine RT.take (v := .agg #[.int .i64 (((o).hint).owner), .string (((o).hint).key)]) 2 rfl (by kernel_rfl) ⟨hb_30, trivial⟩ (by rintro _ ⟨hb_30, -⟩; exact (x_lds (cs := #[.int .i64 (((o).hint).owner), .string (((o).hint).key)]) ty42 rfl rfl (hb_30.cl.drop 1 2))) ?_
            refine RT.takeP (v := .pointer (some ⟨b_7, 0, none⟩)) 4 rfl (by kernel_rfl) (.inr ⟨hb_30, trivial⟩) (fun _ => (x_moveP rfl)) ?_
            refine RT.takeP (v := .pointer (some ⟨b_27, 1, none⟩)) 5 rfl (by kernel_rfl) (.inr ⟨hb_30, trivial⟩) (fun _ => (x_fld (o' := 1) Try.underlying63 rfl ty42 rfl rfl rfl)) ?_
            refine RT.take (v := .agg #[.int .i64 (((o).hint).owner), .string (((o).hint).key)]) 6 rfl (by kernel_rfl) ⟨hb_30, trivial⟩ (by rintro _ ⟨hb_30, -⟩; exact (x_lds (cs := #[.int .i64 (((o).hint).owner), .string (((o).hint).key)]) ty42 rfl rfl (hb_30.cl.drop 1 2))) ?_
            refine RT.st 3 rfl (by kernel_rfl) rfl <| St1.call (vals := [.pointer (some ⟨b_1, 0, none⟩), .agg #[.int .i64 (((o).hint).owner), .string (((o).hint).key)]]) en23 rfl (hasB _ _ _ (L_234.map cv) (max now ((o).now)) ((o).hint) _ hO_15.blk hO_15.own.sl (by omega)) ?_
            rintro _ w_265 ⟨rfl, K_266⟩
            replace hO_15 := hO_15.ext K_266
            replace hO_16 := hO_16.ext K_266
            replace hb_30 := hb_30.ext K_266
            replace ho_211 := ho_211.ext K_266
            replace ho_223 := ho_223.ext K_266
            replace ho_236 := ho_236.ext K_266
            replace ho_253 := ho_253.ext K_266
            replace K0 := K0.ext K_266
            refine ⟨.inr ⟨hb_30, trivial⟩, ?_⟩
            refine RT.st 7 rfl (by kernel_rfl) rfl <| St1.call (vals := [.pointer (some ⟨b_7, 0, none⟩), .agg #[.int .i64 (((o).hint).owner), .string (((o).hint).key)]]) en29 rfl (hasR _ _ _ L_234 (max now ((o).now)) ((o).hint) _ hO_16.blk hO_16.own.sl (by omega)) ?_
            rintro _ w_267 ⟨rfl, K_268⟩
            replace hO_15 := hO_15.ext K_268
            replace hO_16 := hO_16.ext K_268
            replace hb_30 := hb_30.ext K_268
            replace ho_211 := ho_211.ext K_268
            replace ho_223 := ho_223.ext K_268
            replace ho_236 := ho_236.ext K_268
            replace ho_253 := ho_253.ext K_268
            replace K0 := K0.ext K_268
            refine ⟨.inr ⟨hb_30, trivial⟩, ?_⟩
            refine RT.takeP (v := .bool (false)) 8 rfl (by kernel_rfl) (.inr ⟨hb_30, trivial⟩) (fun _ => (litF (x_neB Try.underlying4 rfl rfl) (by simp))) ?_
            refine RT.takeP (v := .bool (false)) 9 rfl (by kernel_rfl) (.inr ⟨hb_30, trivial⟩) (fun _ => (x_moveB rfl)) ?_
            refine RT.gtakeP (v := .pointer (some ⟨b_1, 0, none⟩)) 10 rfl (by kernel_rfl) (.inr ⟨hb_30, trivial⟩) (wantedF1 rfl rfl rfl rfl) (fun hg _ => (x_moveP rfl)) ?_
            refine RT.gtakeP (v := .pointer (some ⟨b_27, 1, none⟩)) 11 rfl (by kernel_rfl) (.inr ⟨hb_30, trivial⟩) (wantedF1 rfl rfl rfl rfl) (fun hg _ => (x_fld (o' := 1) Try.underlying63 rfl ty42 rfl rfl rfl)) ?_
            refine RT.gtakeP (v := .pointer (some ⟨b_27, 1, none⟩)) 12 rfl (by kernel_rfl) (.inr ⟨hb_30, trivial⟩) (wantedF1 rfl rfl rfl rfl) (fun hg _ => (x_fld (o' := 1) Try.underlying42 rfl ty3 rfl rfl rfl)) ?_
            refine RT.gtake (v := .int .i64 (((o).hint).owner)) 13 rfl (by kernel_rfl) ⟨hb_30, trivial⟩ (wantedF1 rfl rfl rfl rfl) (fun hg => by rintro _ ⟨hb_30, -⟩; exact (x_ld (v := .int .i64 (((o).hint).owner)) ty3 rfl rfl (hb_30.cl.field (i := 1) rfl))) ?_
            refine RT.gtakeP (v := .pointer (some ⟨b_7, 0, none⟩)) 15 rfl (by kernel_rfl) (.inr ⟨hb_30, trivial⟩) (wantedF1 rfl rfl rfl rfl) (fun hg _ => (x_moveP rfl)) ?_
            refine RT.gtakeP (v := .pointer (some ⟨b_27, 1, none⟩)) 16 rfl (by kernel_rfl) (.inr ⟨hb_30, trivial⟩) (wantedF1 rfl rfl rfl rfl) (fun hg _ => (x_fld (o' := 1) Try.underlying63 rfl ty42 rfl rfl rfl)) ?_
            refine RT.gtakeP (v := .pointer (some ⟨b_27, 1, none⟩)) 17 rfl (by kernel_rfl) (.inr ⟨hb_30, trivial⟩) (wantedF1 rfl rfl rfl rfl) (fun hg _ => (x_fld (o' := 1) Try.underlying42 rfl ty3 rfl rfl rfl)) ?_
            refine RT.gtake (v := .int .i64 (((o).hint).owner)) 18 rfl (by kernel_rfl) ⟨hb_30, trivial⟩ (wantedF1 rfl rfl rfl rfl) (fun hg => by rintro _ ⟨hb_30, -⟩; exact (x_ld (v := .int .i64 (((o).hint).owner)) ty3 rfl rfl (hb_30.cl.field (i := 1) rfl))) ?_
            refine RT.gst 14 rfl (by kernel_rfl) (wantedF1 rfl rfl rfl rfl) <| St1.call (vals := [.pointer (some ⟨b_1, 0, none⟩), .int .i64 (((o).hint).owner)]) en21 rfl (countP16 _ _ _ (L_234.map cv) (max now ((o).now)) (((o).hint).owner) _ hO_15.blk hO_15.own.sl (by omega)) ?_
            rintro _ w_269 ⟨rfl, K_270⟩
            replace hO_15 := hO_15.ext K_270
            replace hO_16 := hO_16.ext K_270
            replace hb_30 := hb_30.ext K_270
            replace ho_211 := ho_211.ext K_270
            replace ho_223 := ho_223.ext K_270
            replace ho_236 := ho_236.ext K_270
            replace ho_253 := ho_253.ext K_270
            replace K0 := K0.ext K_270
            refine ⟨.inr ⟨hb_30, trivial⟩, ?_⟩
            refine RT.gst 19 rfl (by kernel_rfl) (wantedF1 rfl rfl rfl rfl) <| St1.call (vals := [.pointer (some ⟨b_7, 0, none⟩), .int .i64 (((o).hint).owner)]) en30 rfl (countR16 _ _ _ L_234 (max now ((o).now)) (((o).hint).owner) _ hO_16.blk hO_16.own.sl (by omega) hO_16.rg) ?_
            rintro _ w_271 ⟨rfl, K_272⟩
            replace hO_15 := hO_15.ext K_272
            replace hO_16 := hO_16.ext K_272
            replace hb_30 := hb_30.ext K_272
            replace ho_211 := ho_211.ext K_272
            replace ho_223 := ho_223.ext K_272
            replace ho_236 := ho_236.ext K_272
            replace ho_253 := ho_253.ext K_272
            replace K0 := K0.ext K_272
            refine ⟨.inr ⟨hb_30, trivial⟩, ?_⟩
            refine RT.gtakeP (v := .bool (false)) 20 rfl (by kernel_rfl) (.inr ⟨hb_30, trivial⟩) (wantedF1 rfl rfl rfl rfl) (fun hg _ => (litF (x_neI rfl rfl) (by simp))) ?_
            refine RT.takeP (v := .bool (false)) 21 rfl (by kernel_rfl) (.inr ⟨hb_30, trivial⟩) (fun _ => (x_orF rfl rfl rfl)) ?_
            refine RT.takeP (v := .bool (false)) 22 rfl (by kernel_rfl) (.inr ⟨hb_30, trivial⟩) (fun _ => (x_moveB rfl)) ?_
            refine RT.gtakeP (v := .slice (a_250) (((L_234.map cv).map (·.h)).length) (c_251)) 23 rfl (by kernel_rfl) (.inr ⟨hb_30, trivial⟩) (wantedF1 rfl rfl rfl rfl) (fun hg _ => (x_moveSl rfl)) ?_
            refine RT.gtakeP (v := .pointer (some ⟨b_7, 0, none⟩)) 24 rfl (by kernel_rfl) (.inr ⟨hb_30, trivial⟩) (wantedF1 rfl rfl rfl rfl) (fun hg _ => (x_moveP rfl)) ?_
            refine RT.gst 25 rfl (by kernel_rfl) (wantedF1 rfl rfl rfl rfl) <| St1.call (vals := [.pointer (some ⟨b_7, 0, none⟩)]) en31 rfl (hintsR _ _ _ L_234 (max now ((o).now)) _ hO_16.blk hO_16.own.sl (by omega)) ?_
            rintro _ w_275 ⟨a_273, c_274, rfl, ho_276, hg_277, K_278⟩
            have pr_279 : ∀ q_, own a_273 q_ → ¬ boxS b_1 alb q_ := apartNew hg_277 hO_15.own_lt
            have pr_280 : ∀ q_, own a_273 q_ → ¬ boxS b_7 alr q_ := apartNew hg_277 hO_16.own_lt
            have pr_281 : ¬ own a_273 b_27 := notNew hg_277 hb_30.lt
            have pr_282 : ∀ q_, own a_273 q_ → ¬ own a_208 q_ := apartNew hg_277 ho_211.own_lt
            have pr_283 : ∀ q_, own a_273 q_ → ¬ own a_220 q_ := apartNew hg_277 ho_223.own_lt
            have pr_284 : ∀ q_, own a_273 q_ → ¬ own a_232 q_ := apartNew hg_277 ho_236.own_lt
            have pr_285 : ∀ q_, own a_273 q_ → ¬ own a_250 q_ := apartNew hg_277 ho_253.own_lt
            have pg_286 : ∀ q_, own a_273 q_ → w.heap.size ≤ q_ := fun q_ h => Nat.le_trans K0.size (hg_277 q_ h)
            clear hg_277
            replace hO_15 := hO_15.ext K_278
            replace hO_16 := hO_16.ext K_278
            replace hb_30 := hb_30.ext K_278
            replace ho_211 := ho_211.ext K_278
            replace ho_223 := ho_223.ext K_278
            replace ho_236 := ho_236.ext K_278
            replace ho_253 := ho_253.ext K_278
            replace K0 := K0.ext K_278
            refine ⟨.inr ⟨hb_30, trivial⟩, ?_⟩
            refine RT.gst 26 rfl (by kernel_rfl) (wantedF1 rfl rfl rfl rfl) <| St1.call (vals := [.slice (a_250) (((L_234.map cv).map (·.h)).length) (c_251), .slice (a_273) (((L_234.map cv).map (·.h)).length) (c_274)]) en20 rfl (equal_hint _ _ _ _ _ _ _ ho_253.sl ho_276.sl (by omega)) ?_
            rintro _ w_287 ⟨rfl, K_288⟩
            replace hO_15 := hO_15.ext K_288
            replace hO_16 := hO_16.ext K_288
            replace hb_30 := hb_30.ext K_288
            replace ho_211 := ho_211.ext K_288
            replace ho_223 := ho_223.ext K_288
            replace ho_236 := ho_236.ext K_288
            replace ho_253 := ho_253.ext K_288
            replace ho_276 := ho_276.ext K_288
            replace K0 := K0.ext K_288
            refine ⟨.inr ⟨hb_30, trivial⟩, ?_⟩
            refine RT.gtakeP (v := .bool (false)) 27 rfl (by kernel_rfl) (.inr ⟨hb_30, trivial⟩) (wantedF1 rfl rfl rfl rfl) (fun hg _ => (litF (x_not rfl) (by simp))) ?_
            refine RT.takeP (v := .bool (false)) 28 rfl (by kernel_rfl) (.inr ⟨hb_30, trivial⟩) (fun _ => (x_orF rfl rfl rfl)) ?_
            refine RT.done (by kernel_rfl) ?_
            refine Run.condF rfl ?_
            refine Run.skip ?_
            refine Run.seq ?_
            refine Run.region ?_
            refine RL.val (x_moveSl rfl) ?_
            refine RL.val (x_lenSl Try.underlying35 rfl) ?_
            refine RL.val (x_moveI rfl) ?_
            refine RL.nil ?_
            refine Run.block ?_
            refine Run.loop (ι := Nat) (fun k ρ' w' => ∃ lh : List Hint, ∃ ah : Option Addr, ∃ ch : Nat, Holds ρ' [(3, .pointer (some ⟨b_1, 0, none⟩)), (4, .pointer (some ⟨b_7, 0, none⟩)), (8, .slice (ah) (((L_234.map cv).map (·.h)).length) (ch)), (13, .slice (as0) (script.length) (cs0)), (14, .int .i64 (((script.length : Nat) : Int))), (15, .int .i64 (((i : Nat) : Int))), (16, .bool (decide (((i : Nat) : Int) < ((script.length : Nat) : Int)))), (104, .int .i64 (((((L_234.map cv).map (·.h)).length : Nat) : Int))), (105, .int .i64 (((k : Nat) : Int)))] ∧ Ext w w' ∧ (Blk w' b_27 [.int .i64 ((o).op), .int .i64 (((o).hint).owner), .string (((o).hint).key), .int .i64 ((o).now), .slice ((o).up.a) ((o).up.len) ((o).up.cap)] 63) ∧ (BoxAt w' b_1 alb clb (L_234.map cv) (max now ((o).now))) ∧ (RBoxAt w' b_7 alr clr L_234 (max now ((o).now))) ∧ (OwnSl w' 3 (a_208) (c_209) (up)) ∧ (OwnSl w' 42 (a_220) (c_221) ((due (max now ((o).now)) (L.map cv) up).T)) ∧ (OwnSl w' 42 (a_232) (c_233) ((due (max now ((o).now)) (L.map cv) up).T)) ∧ (OwnSl w' 42 (a_273) (c_274) ((L_234.map cv).map (·.h))) ∧ (OwnSl w' 42 ah ch (lh)) ∧ (¬ own ah b_27) ∧ (∀ q_, own ah q_ → ¬ boxS b_1 alb q_) ∧ (∀ q_, own ah q_ → ¬ boxS b_7 alr q_) ∧ (∀ q_, own ah q_ → ¬ own a_208 q_) ∧ (∀ q_, own ah q_ → ¬ own a_220 q_) ∧ (∀ q_, own ah q_ → ¬ own a_232 q_) ∧ (∀ q_, own ah q_ → ¬ own a_273 q_) ∧ (∀ q_, own ah q_ → w.heap.size ≤ q_) ∧ (k ≤ ((L_234.map cv).map (·.h)).length) ∧ (lh.length = ((L_234.map cv).map (·.h)).length)) (fun k => ((L_234.map cv).map (·.h)).length - k) 0 ?_ ?_
            · refine ⟨_, _, _, ⟨rfl, rfl, rfl, rfl, rfl, rfl, rfl, rfl, rfl, trivial⟩, K0, hb_30, hO_15, hO_16, ho_211, ho_223, ho_236, ho_276, ho_253, pr_258, pr_256, pr_257, pr_259, pr_260, pr_261, (fun q_ h1 h2 => pr_285 q_ h2 h1), pg_262, ?_, ?_⟩
              · omega
              · rfl
            clear hO_15 hO_16 hb_30 ho_211 ho_223 ho_236 ho_253 ho_276
            clear K0
            rintro k ρ_300 w_289 ⟨lh, ah, ch, hH_290, K0, hb_30, hO_15, hO_16, ho_211, ho_223, ho_236, ho_276, ho_291, pr_292, pr_293, pr_294, pr_295, pr_296, pr_297, pr_298, pr_299, hk, hlh⟩ ih4
            obtain ⟨ρ₀, rfl⟩ := hH_290.ex
            clear hH_290
            refine Run.seq ?_
            refine Run.region ?_
            refine RL.val (x_ltI rfl rfl) ?_
            refine RL.nil ?_
            refine Run.seq ?_
            refine Run.cond rfl (fun hc106 => ?_) (fun hc106 => ?_)
            · try simp only [br] at hc106
              refine Run.skip ?_
              refine Run.seq ?_
              refine Run.block ?_
              refine Run.seq ?_
              refine Run.region ?_
              refine RL.val (x_moveI rfl) ?_
              refine RL.val (x_assignI rfl) ?_
              refine RL.nil ?_
              refine Run.region ?_
              refine RL.val (x_moveSl rfl) ?_
              refine RL.val (x_moveI rfl) ?_
              obtain ⟨b_301, o_302, x_305, hx_306, ha_303, hc_304⟩ := ho_291.sl.el (i := k) (by first | omega | (simp only [List.length_set]; omega))
              refine RL.val (x_idxN Try.underlying35 ty42 rfl rfl ha_303 (by first | omega | (simp only [List.length_set]; omega))) ?_
              refine RL.val (x_fld (o' := o_302 + k * 2 + 1) Try.underlying42 rfl ty9 rfl rfl rfl) ?_
              refine RL.st rfl <| St1.storeEl (v := .string (⟨#[33]⟩)) (off := 1) (i := k) ({ x_305 with key := ⟨#[33]⟩ }) ty9 rfl rfl rfl (by simp [Value.cells, Value.oneCell']) ho_291 ha_303 hx_306 rfl (by decide) rfl ?_
              intro w_307 ho_309 K_308
              clear hc_304
              replace hb_30 := hb_30.keep K_308 pr_292
              replace hO_15 := hO_15.keepO K_308 (fun q_ h1 h2 => pr_293 q_ h2 h1)
              replace hO_16 := hO_16.keepO K_308 (fun q_ h1 h2 => pr_294 q_ h2 h1)
              replace ho_211 := ho_211.keepO K_308 (fun q_ h1 h2 => pr_295 q_ h2 h1)
              replace ho_223 := ho_223.keepO K_308 (fun q_ h1 h2 => pr_296 q_ h2 h1)
              replace ho_236 := ho_236.keepO K_308 (fun q_ h1 h2 => pr_297 q_ h2 h1)
              replace ho_276 := ho_276.keepO K_308 (fun q_ h1 h2 => pr_298 q_ h2 h1)
              replace K0 := K0.new K_308 pr_299
              replace ho_291 := ho_309
              clear ho_309
              refine RL.nil ?_
              refine Run.inBlock ?_
              refine Run.region ?_
              refine RL.val (litI (c := ((k + 1 : Nat) : Int)) (x_add rfl rfl (by omega) (by omega)) rfl) ?_
              refine RL.val (x_moveI rfl) ?_
              refine RL.nil ?_
              refine ih4 (k + 1) _ _ ?_ (by omega)
              refine ⟨_, _, _, ⟨rfl, rfl, rfl, rfl, rfl, rfl, rfl, rfl, rfl, trivial⟩, K0, hb_30, hO_15, hO_16, ho_211, ho_223, ho_236, ho_276, ho_291, pr_292, pr_293, pr_294, pr_295, pr_296, pr_297, pr_298, pr_299, ?_, ?_⟩
              · omega
              · rw [List.length_set]; exact hlh
            · try simp only [br] at hc106
              refine Run.exit rfl ?_
              refine Run.inBlock ?_
              refine Run.region ?_
              refine RL.val (litI (c := ((i + 1 : Nat) : Int)) (x_add rfl rfl (by omega) (by omega)) rfl) ?_
              refine RL.val (x_moveI rfl) ?_
              refine RL.nil ?_
              refine ih1 (i + 1) _ _ ?_ (by omega)
              refine ⟨_, _, _, _, _, _, ⟨rfl, rfl, rfl, rfl, rfl, trivial⟩, K0, hO_15, hO_16, pr_17, pr_18, pr_19, ?_, ?_, ?_⟩
              · omega
              · omega
              · omega
      · try simp only [br] at hc49
        refine Run.region ?_
        refine RL.val (x_eqI rfl rfl) ?_
        refine RL.val (x_assignB rfl) ?_
        refine RL.nil ?_
        refine Run.cond rfl (fun hc49 => ?_) (fun hc49 => ?_)
        · try simp only [br] at hc49
          refine Run.seq ?_
          refine Run.drawT [] (m := 9) (by kernel_rfl) rfl ?_
          intro w_310 K_311
          replace hO_15 := hO_15.ext K_311
          replace hO_16 := hO_16.ext K_311
          replace hb_30 := hb_30.ext K_311
          replace K0 := K0.ext K_311
          refine ⟨fun w' => Blk w' b_27 [.int .i64 ((o).op), .int .i64 (((o).hint).owner), .string (((o).hint).key), .int .i64 ((o).now), .slice ((o).up.a) ((o).up.len) ((o).up.cap)] 63 ∧ True, ?_⟩
          refine RT.takeP (v := .pointer (some ⟨b_1, 0, none⟩)) 0 rfl (by kernel_rfl) (.inr ⟨hb_30, trivial⟩) (fun _ => (x_moveP rfl)) ?_
          refine RT.takeP (v := .pointer (some ⟨b_27, 1, none⟩)) 1 rfl (by kernel_rfl) (.inr ⟨hb_30, trivial⟩) (fun _ => (x_fld (o' := 1) Try.underlying63 rfl ty42 rfl rfl rfl)) ?_
          refine RT.take (v := .agg #[.int .i64 (((o).hint).owner), .string (((o).hint).key)]) 2 rfl (by kernel_rfl) ⟨hb_30, trivial⟩ (by rintro _ ⟨hb_30, -⟩; exact (x_lds (cs := #[.int .i64 (((o).hint).owner), .string (((o).hint).key)]) ty42 rfl rfl (hb_30.cl.drop 1 2))) ?_
          refine RT.takeP (v := .pointer (some ⟨b_7, 0, none⟩)) 4 rfl (by kernel_rfl) (.inr ⟨hb_30, trivial⟩) (fun _ => (x_moveP rfl)) ?_
          refine RT.takeP (v := .pointer (some ⟨b_27, 1, none⟩)) 5 rfl (by kernel_rfl) (.inr ⟨hb_30, trivial⟩) (fun _ => (x_fld (o' := 1) Try.underlying63 rfl ty42 rfl rfl rfl)) ?_
          refine RT.take (v := .agg #[.int .i64 (((o).hint).owner), .string (((o).hint).key)]) 6 rfl (by kernel_rfl) ⟨hb_30, trivial⟩ (by rintro _ ⟨hb_30, -⟩; exact (x_lds (cs := #[.int .i64 (((o).hint).owner), .string (((o).hint).key)]) ty42 rfl rfl (hb_30.cl.drop 1 2))) ?_
          refine RT.st 3 rfl (by kernel_rfl) rfl <| St1.call (vals := [.pointer (some ⟨b_1, 0, none⟩), .agg #[.int .i64 (((o).hint).owner), .string (((o).hint).key)]]) en19 rfl (putB _ _ _ (L.map cv) now ((o).hint) _ hO_15 (by omega) (by omega)) ?_
          rintro _ w_314 ⟨al_312, cl_313, rfl, hB_315, hm_316, K_317⟩
          have pr_319 : ∀ q_, boxS b_1 al_312 q_ → ¬ boxS b_7 alr q_ := hm_316.apart pr_17 hO_16.own_lt
          have pr_320 : ¬ boxS b_1 al_312 b_27 := hm_316.not pr_33 hb_30.lt
          have pg_321 : ∀ q_, boxS b_1 al_312 q_ → w.heap.size ≤ q_ := hm_316.ge pr_18 K0.size
          replace hO_16 := hO_16.keepO K_317 (fun q_ h1 h2 => pr_17 q_ h2 h1)
          replace hb_30 := hb_30.keep K_317 pr_33
          replace K0 := K0.new K_317 pr_18
          clear hm_316
          refine ⟨.inr ⟨hb_30, trivial⟩, ?_⟩
          refine RT.st 7 rfl (by kernel_rfl) rfl <| St1.call (vals := [.pointer (some ⟨b_7, 0, none⟩), .agg #[.int .i64 (((o).hint).owner), .string (((o).hint).key)]]) en26 rfl (putR _ _ _ L now ((o).hint) _ hO_16 (by omega) (by omega)) ?_
          rintro _ w_325 ⟨al_322, cl_323, L_324, rfl, hB_326, hcv, hm_327, K_328⟩
          have pr_329 : ¬ boxS b_7 al_322 b_27 := hm_327.not pr_34 hb_30.lt
          have pr_330 : ∀ q_, boxS b_7 al_322 q_ → ¬ boxS b_1 al_312 q_ := hm_327.apart (fun q_ h1 h2 => pr_319 q_ h2 h1) hB_315.own_lt
          have pg_331 : ∀ q_, boxS b_7 al_322 q_ → w.heap.size ≤ q_ := hm_327.ge pr_19 K0.size
          replace hb_30 := hb_30.keep K_328 pr_34
          replace hB_315 := hB_315.keepO K_328 pr_319
          replace K0 := K0.new K_328 pr_19
          clear hm_327
          refine ⟨.inr ⟨hb_30, trivial⟩, ?_⟩
          refine RT.takeP (v := .bool (false)) 8 rfl (by kernel_rfl) (.inr ⟨hb_30, trivial⟩) (fun _ => (litF (x_neI rfl rfl) (by simp))) ?_
          refine RT.done (by kernel_rfl) ?_
          have hL1 : L_324.length ≤ 256 := len_cv hcv (putL_len (by rw [List.length_map]; omega))
          rw [← hcv] at hB_315
          clear hcv
          have hlm : (L_324.map cv).length = L_324.length := List.length_map ..
          have hlm2 : ((L_324.map cv).map (·.h)).length = L_324.length := by rw [List.length_map, List.length_map]
          refine Run.condF rfl ?_
          refine Run.skip ?_
          refine Run.inBlock ?_
          refine Run.seq ?_
          refine Run.region ?_
          refine RL.val (x_moveP rfl) ?_
          refine RL.st rfl <| St1.call (vals := [.pointer (some ⟨b_1, 0, none⟩)]) en24 rfl (hintsB _ _ _ (L_324.map cv) now _ hB_315.blk hB_315.own.sl (by omega)) ?_
          rintro _ w_334 ⟨a_332, c_333, rfl, ho_335, hg_336, K_337⟩
          have pr_338 : ¬ own a_332 b_27 := notNew hg_336 hb_30.lt
          have pr_339 : ∀ q_, own a_332 q_ → ¬ boxS b_1 al_312 q_ := apartNew hg_336 hB_315.own_lt
          have pr_340 : ∀ q_, own a_332 q_ → ¬ boxS b_7 al_322 q_ := apartNew hg_336 hB_326.own_lt
          have pg_341 : ∀ q_, own a_332 q_ → w.heap.size ≤ q_ := fun q_ h => Nat.le_trans K0.size (hg_336 q_ h)
          clear hg_336
          replace hb_30 := hb_30.ext K_337
          replace hB_315 := hB_315.ext K_337
          replace hB_326 := hB_326.ext K_337
          replace K0 := K0.ext K_337
          refine RL.val (x_assignSl rfl) ?_
          refine RL.nil ?_
          refine Run.seq ?_
          refine Run.seq ?_
          refine Run.drawT [] (m := 29) (by kernel_rfl) rfl ?_
          intro w_342 K_343
          replace hb_30 := hb_30.ext K_343
          replace hB_315 := hB_315.ext K_343
          replace hB_326 := hB_326.ext K_343
          replace ho_335 := ho_335.ext K_343
          replace K0 := K0.ext K_343
          refine ⟨fun w' => Blk w' b_27 [.int .i64 ((o).op), .int .i64 (((o).hint).owner), .string (((o).hint).key), .int .i64 ((o).now), .slice ((o).up.a) ((o).up.len) ((o).up.cap)] 63 ∧ True, ?_⟩
          refine RT.takeP (v := .pointer (some ⟨b_1, 0, none⟩)) 0 rfl (by kernel_rfl) (.inr ⟨hb_30, trivial⟩) (fun _ => (x_moveP rfl)) ?_
          refine RT.takeP (v := .pointer (some ⟨b_27, 1, none⟩)) 1 rfl (by kernel_rfl) (.inr ⟨hb_30, trivial⟩) (fun _ => (x_fld (o' := 1) Try.underlying63 rfl ty42 rfl rfl rfl)) ?_
          refine RT.take (v := .agg #[.int .i64 (((o).hint).owner), .string (((o).hint).key)]) 2 rfl (by kernel_rfl) ⟨hb_30, trivial⟩ (by rintro _ ⟨hb_30, -⟩; exact (x_lds (cs := #[.int .i64 (((o).hint).owner), .string (((o).hint).key)]) ty42 rfl rfl (hb_30.cl.drop 1 2))) ?_
          refine RT.takeP (v := .pointer (some ⟨b_7, 0, none⟩)) 4 rfl (by kernel_rfl) (.inr ⟨hb_30, trivial⟩) (fun _ => (x_moveP rfl)) ?_
          refine RT.takeP (v := .pointer (some ⟨b_27, 1, none⟩)) 5 rfl (by kernel_rfl) (.inr ⟨hb_30, trivial⟩) (fun _ => (x_fld (o' := 1) Try.underlying63 rfl ty42 rfl rfl rfl)) ?_
          refine RT.take (v := .agg #[.int .i64 (((o).hint).owner), .string (((o).hint).key)]) 6 rfl (by kernel_rfl) ⟨hb_30, trivial⟩ (by rintro _ ⟨hb_30, -⟩; exact (x_lds (cs := #[.int .i64 (((o).hint).owner), .string (((o).hint).key)]) ty42 rfl rfl (hb_30.cl.drop 1 2))) ?_
          refine RT.st 3 rfl (by kernel_rfl) rfl <| St1.call (vals := [.pointer (some ⟨b_1, 0, none⟩), .agg #[.int .i64 (((o).hint).owner), .string (((o).hint).key)]]) en23 rfl (hasB _ _ _ (L_324.map cv) now ((o).hint) _ hB_315.blk hB_315.own.sl (by omega)) ?_
          rintro _ w_344 ⟨rfl, K_345⟩
          replace hb_30 := hb_30.ext K_345
          replace hB_315 := hB_315.ext K_345
          replace hB_326 := hB_326.ext K_345
          replace ho_335 := ho_335.ext K_345
          replace K0 := K0.ext K_345
          refine ⟨.inr ⟨hb_30, trivial⟩, ?_⟩
          refine RT.st 7 rfl (by kernel_rfl) rfl <| St1.call (vals := [.pointer (some ⟨b_7, 0, none⟩), .agg #[.int .i64 (((o).hint).owner), .string (((o).hint).key)]]) en29 rfl (hasR _ _ _ L_324 now ((o).hint) _ hB_326.blk hB_326.own.sl (by omega)) ?_
          rintro _ w_346 ⟨rfl, K_347⟩
          replace hb_30 := hb_30.ext K_347
          replace hB_315 := hB_315.ext K_347
          replace hB_326 := hB_326.ext K_347
          replace ho_335 := ho_335.ext K_347
          replace K0 := K0.ext K_347
          refine ⟨.inr ⟨hb_30, trivial⟩, ?_⟩
          refine RT.takeP (v := .bool (false)) 8 rfl (by kernel_rfl) (.inr ⟨hb_30, trivial⟩) (fun _ => (litF (x_neB Try.underlying4 rfl rfl) (by simp))) ?_
          refine RT.takeP (v := .bool (false)) 9 rfl (by kernel_rfl) (.inr ⟨hb_30, trivial⟩) (fun _ => (x_moveB rfl)) ?_
          refine RT.gtakeP (v := .pointer (some ⟨b_1, 0, none⟩)) 10 rfl (by kernel_rfl) (.inr ⟨hb_30, trivial⟩) (wantedF1 rfl rfl rfl rfl) (fun hg _ => (x_moveP rfl)) ?_
          refine RT.gtakeP (v := .pointer (some ⟨b_27, 1, none⟩)) 11 rfl (by kernel_rfl) (.inr ⟨hb_30, trivial⟩) (wantedF1 rfl rfl rfl rfl) (fun hg _ => (x_fld (o' := 1) Try.underlying63 rfl ty42 rfl rfl rfl)) ?_
          refine RT.gtakeP (v := .pointer (some ⟨b_27, 1, none⟩)) 12 rfl (by kernel_rfl) (.inr ⟨hb_30, trivial⟩) (wantedF1 rfl rfl rfl rfl) (fun hg _ => (x_fld (o' := 1) Try.underlying42 rfl ty3 rfl rfl rfl)) ?_
          refine RT.gtake (v := .int .i64 (((o).hint).owner)) 13 rfl (by kernel_rfl) ⟨hb_30, trivial⟩ (wantedF1 rfl rfl rfl rfl) (fun hg => by rintro _ ⟨hb_30, -⟩; exact (x_ld (v := .int .i64 (((o).hint).owner)) ty3 rfl rfl (hb_30.cl.field (i := 1) rfl))) ?_
          refine RT.gtakeP (v := .pointer (some ⟨b_7, 0, none⟩)) 15 rfl (by kernel_rfl) (.inr ⟨hb_30, trivial⟩) (wantedF1 rfl rfl rfl rfl) (fun hg _ => (x_moveP rfl)) ?_
          refine RT.gtakeP (v := .pointer (some ⟨b_27, 1, none⟩)) 16 rfl (by kernel_rfl) (.inr ⟨hb_30, trivial⟩) (wantedF1 rfl rfl rfl rfl) (fun hg _ => (x_fld (o' := 1) Try.underlying63 rfl ty42 rfl rfl rfl)) ?_
          refine RT.gtakeP (v := .pointer (some ⟨b_27, 1, none⟩)) 17 rfl (by kernel_rfl) (.inr ⟨hb_30, trivial⟩) (wantedF1 rfl rfl rfl rfl) (fun hg _ => (x_fld (o' := 1) Try.underlying42 rfl ty3 rfl rfl rfl)) ?_
          refine RT.gtake (v := .int .i64 (((o).hint).owner)) 18 rfl (by kernel_rfl) ⟨hb_30, trivial⟩ (wantedF1 rfl rfl rfl rfl) (fun hg => by rintro _ ⟨hb_30, -⟩; exact (x_ld (v := .int .i64 (((o).hint).owner)) ty3 rfl rfl (hb_30.cl.field (i := 1) rfl))) ?_
          refine RT.gst 14 rfl (by kernel_rfl) (wantedF1 rfl rfl rfl rfl) <| St1.call (vals := [.pointer (some ⟨b_1, 0, none⟩), .int .i64 (((o).hint).owner)]) en21 rfl (countP16 _ _ _ (L_324.map cv) now (((o).hint).owner) _ hB_315.blk hB_315.own.sl (by omega)) ?_
          rintro _ w_348 ⟨rfl, K_349⟩
          replace hb_30 := hb_30.ext K_349
          replace hB_315 := hB_315.ext K_349
          replace hB_326 := hB_326.ext K_349
          replace ho_335 := ho_335.ext K_349
          replace K0 := K0.ext K_349
          refine ⟨.inr ⟨hb_30, trivial⟩, ?_⟩
          refine RT.gst 19 rfl (by kernel_rfl) (wantedF1 rfl rfl rfl rfl) <| St1.call (vals := [.pointer (some ⟨b_7, 0, none⟩), .int .i64 (((o).hint).owner)]) en30 rfl (countR16 _ _ _ L_324 now (((o).hint).owner) _ hB_326.blk hB_326.own.sl (by omega) hB_326.rg) ?_
          rintro _ w_350 ⟨rfl, K_351⟩
          replace hb_30 := hb_30.ext K_351
          replace hB_315 := hB_315.ext K_351
          replace hB_326 := hB_326.ext K_351
          replace ho_335 := ho_335.ext K_351
          replace K0 := K0.ext K_351
          refine ⟨.inr ⟨hb_30, trivial⟩, ?_⟩
          refine RT.gtakeP (v := .bool (false)) 20 rfl (by kernel_rfl) (.inr ⟨hb_30, trivial⟩) (wantedF1 rfl rfl rfl rfl) (fun hg _ => (litF (x_neI rfl rfl) (by simp))) ?_
          refine RT.takeP (v := .bool (false)) 21 rfl (by kernel_rfl) (.inr ⟨hb_30, trivial⟩) (fun _ => (x_orF rfl rfl rfl)) ?_
          refine RT.takeP (v := .bool (false)) 22 rfl (by kernel_rfl) (.inr ⟨hb_30, trivial⟩) (fun _ => (x_moveB rfl)) ?_
          refine RT.gtakeP (v := .slice (a_332) (((L_324.map cv).map (·.h)).length) (c_333)) 23 rfl (by kernel_rfl) (.inr ⟨hb_30, trivial⟩) (wantedF1 rfl rfl rfl rfl) (fun hg _ => (x_moveSl rfl)) ?_
          refine RT.gtakeP (v := .pointer (some ⟨b_7, 0, none⟩)) 24 rfl (by kernel_rfl) (.inr ⟨hb_30, trivial⟩) (wantedF1 rfl rfl rfl rfl) (fun hg _ => (x_moveP rfl)) ?_
          refine RT.gst 25 rfl (by kernel_rfl) (wantedF1 rfl rfl rfl rfl) <| St1.call (vals := [.pointer (some ⟨b_7, 0, none⟩)]) en31 rfl (hintsR _ _ _ L_324 now _ hB_326.blk hB_326.own.sl (by omega)) ?_
          rintro _ w_354 ⟨a_352, c_353, rfl, ho_355, hg_356, K_357⟩
          have pr_358 : ¬ own a_352 b_27 := notNew hg_356 hb_30.lt
          have pr_359 : ∀ q_, own a_352 q_ → ¬ boxS b_1 al_312 q_ := apartNew hg_356 hB_315.own_lt
          have pr_360 : ∀ q_, own a_352 q_ → ¬ boxS b_7 al_322 q_ := apartNew hg_356 hB_326.own_lt
          have pr_361 : ∀ q_, own a_352 q_ → ¬ own a_332 q_ := apartNew hg_356 ho_335.own_lt
          have pg_362 : ∀ q_, own a_352 q_ → w.heap.size ≤ q_ := fun q_ h => Nat.le_trans K0.size (hg_356 q_ h)
          clear hg_356
          replace hb_30 := hb_30.ext K_357
          replace hB_315 := hB_315.ext K_357
          replace hB_326 := hB_326.ext K_357
          replace ho_335 := ho_335.ext K_357
          replace K0 := K0.ext K_357
          refine ⟨.inr ⟨hb_30, trivial⟩, ?_⟩
          refine RT.gst 26 rfl (by kernel_rfl) (wantedF1 rfl rfl rfl rfl) <| St1.call (vals := [.slice (a_332) (((L_324.map cv).map (·.h)).length) (c_333), .slice (a_352) (((L_324.map cv).map (·.h)).length) (c_353)]) en20 rfl (equal_hint _ _ _ _ _ _ _ ho_335.sl ho_355.sl (by omega)) ?_
          rintro _ w_363 ⟨rfl, K_364⟩
          replace hb_30 := hb_30.ext K_364
          replace hB_315 := hB_315.ext K_364
          replace hB_326 := hB_326.ext K_364
          replace ho_335 := ho_335.ext K_364
          replace ho_355 := ho_355.ext K_364
          replace K0 := K0.ext K_364
          refine ⟨.inr ⟨hb_30, trivial⟩, ?_⟩
          refine RT.gtakeP (v := .bool (false)) 27 rfl (by kernel_rfl) (.inr ⟨hb_30, trivial⟩) (wantedF1 rfl rfl rfl rfl) (fun hg _ => (litF (x_not rfl) (by simp))) ?_
          refine RT.takeP (v := .bool (false)) 28 rfl (by kernel_rfl) (.inr ⟨hb_30, trivial⟩) (fun _ => (x_orF rfl rfl rfl)) ?_
          refine RT.done (by kernel_rfl) ?_
          refine Run.condF rfl ?_
          refine Run.skip ?_
          refine Run.seq ?_
          refine Run.region ?_
          refine RL.val (x_moveSl rfl) ?_
          refine RL.val (x_lenSl Try.underlying35 rfl) ?_
          refine RL.val (x_moveI rfl) ?_
          refine RL.nil ?_
          refine Run.block ?_
          refine Run.loop (ι := Nat) (fun k ρ' w' => ∃ lh : List Hint, ∃ ah : Option Addr, ∃ ch : Nat, Holds ρ' [(3, .pointer (some ⟨b_1, 0, none⟩)), (4, .pointer (some ⟨b_7, 0, none⟩)), (8, .slice (ah) (((L_324.map cv).map (·.h)).length) (ch)), (13, .slice (as0) (script.length) (cs0)), (14, .int .i64 (((script.length : Nat) : Int))), (15, .int .i64 (((i : Nat) : Int))), (16, .bool (decide (((i : Nat) : Int) < ((script.length : Nat) : Int)))), (104, .int .i64 (((((L_324.map cv).map (·.h)).length : Nat) : Int))), (105, .int .i64 (((k : Nat) : Int)))] ∧ Ext w w' ∧ (Blk w' b_27 [.int .i64 ((o).op), .int .i64 (((o).hint).owner), .string (((o).hint).key), .int .i64 ((o).now), .slice ((o).up.a) ((o).up.len) ((o).up.cap)] 63) ∧ (BoxAt w' b_1 al_312 cl_313 (L_324.map cv) now) ∧ (RBoxAt w' b_7 al_322 cl_323 L_324 now) ∧ (OwnSl w' 42 (a_352) (c_353) ((L_324.map cv).map (·.h))) ∧ (OwnSl w' 42 ah ch (lh)) ∧ (¬ own ah b_27) ∧ (∀ q_, own ah q_ → ¬ boxS b_1 al_312 q_) ∧ (∀ q_, own ah q_ → ¬ boxS b_7 al_322 q_) ∧ (∀ q_, own ah q_ → ¬ own a_352 q_) ∧ (∀ q_, own ah q_ → w.heap.size ≤ q_) ∧ (k ≤ ((L_324.map cv).map (·.h)).length) ∧ (lh.length = ((L_324.map cv).map (·.h)).length)) (fun k => ((L_324.map cv).map (·.h)).length - k) 0 ?_ ?_
          · refine ⟨_, _, _, ⟨rfl, rfl, rfl, rfl, rfl, rfl, rfl, rfl, rfl, trivial⟩, K0, hb_30, hB_315, hB_326, ho_355, ho_335, pr_338, pr_339, pr_340, (fun q_ h1 h2 => pr_361 q_ h2 h1), pg_341, ?_, ?_⟩
            · omega
            · rfl
          clear hb_30 hB_315 hB_326 ho_335 ho_355
          clear K0
          rintro k ρ_373 w_365 ⟨lh, ah, ch, hH_366, K0, hb_30, hB_315, hB_326, ho_355, ho_367, pr_368, pr_369, pr_370, pr_371, pr_372, hk, hlh⟩ ih5
          obtain ⟨ρ₀, rfl⟩ := hH_366.ex
          clear hH_366
          refine Run.seq ?_
          refine Run.region ?_
          refine RL.val (x_ltI rfl rfl) ?_
          refine RL.nil ?_
          refine Run.seq ?_
          refine Run.cond rfl (fun hc106 => ?_) (fun hc106 => ?_)
          · try simp only [br] at hc106
            refine Run.skip ?_
            refine Run.seq ?_
            refine Run.block ?_
            refine Run.seq ?_
            refine Run.region ?_
            refine RL.val (x_moveI rfl) ?_
            refine RL.val (x_assignI rfl) ?_
            refine RL.nil ?_
            refine Run.region ?_
            refine RL.val (x_moveSl rfl) ?_
            refine RL.val (x_moveI rfl) ?_
            obtain ⟨b_374, o_375, x_378, hx_379, ha_376, hc_377⟩ := ho_367.sl.el (i := k) (by first | omega | (simp only [List.length_set]; omega))
            refine RL.val (x_idxN Try.underlying35 ty42 rfl rfl ha_376 (by first | omega | (simp only [List.length_set]; omega))) ?_
            refine RL.val (x_fld (o' := o_375 + k * 2 + 1) Try.underlying42 rfl ty9 rfl rfl rfl) ?_
            refine RL.st rfl <| St1.storeEl (v := .string (⟨#[33]⟩)) (off := 1) (i := k) ({ x_378 with key := ⟨#[33]⟩ }) ty9 rfl rfl rfl (by simp [Value.cells, Value.oneCell']) ho_367 ha_376 hx_379 rfl (by decide) rfl ?_
            intro w_380 ho_382 K_381
            clear hc_377
            replace hb_30 := hb_30.keep K_381 pr_368
            replace hB_315 := hB_315.keepO K_381 (fun q_ h1 h2 => pr_369 q_ h2 h1)
            replace hB_326 := hB_326.keepO K_381 (fun q_ h1 h2 => pr_370 q_ h2 h1)
            replace ho_355 := ho_355.keepO K_381 (fun q_ h1 h2 => pr_371 q_ h2 h1)
            replace K0 := K0.new K_381 pr_372
            replace ho_367 := ho_382
            clear ho_382
            refine RL.nil ?_
            refine Run.inBlock ?_
            refine Run.region ?_
            refine RL.val (litI (c := ((k + 1 : Nat) : Int)) (x_add rfl rfl (by omega) (by omega)) rfl) ?_
            refine RL.val (x_moveI rfl) ?_
            refine RL.nil ?_
            refine ih5 (k + 1) _ _ ?_ (by omega)
            refine ⟨_, _, _, ⟨rfl, rfl, rfl, rfl, rfl, rfl, rfl, rfl, rfl, trivial⟩, K0, hb_30, hB_315, hB_326, ho_355, ho_367, pr_368, pr_369, pr_370, pr_371, pr_372, ?_, ?_⟩
            · omega
            · rw [List.length_set]; exact hlh
          · try simp only [br] at hc106
            refine Run.exit rfl ?_
            refine Run.inBlock ?_
            refine Run.region ?_
            refine RL.val (litI (c := ((i + 1 : Nat) : Int)) (x_add rfl rfl (by omega) (by omega)) rfl) ?_
            refine RL.val (x_moveI rfl) ?_
            refine RL.nil ?_
            refine ih1 (i + 1) _ _ ?_ (by omega)
            refine ⟨_, _, _, _, _, _, ⟨rfl, rfl, rfl, rfl, rfl, trivial⟩, K0, hB_315, hB_326, (fun q_ h1 h2 => pr_330 q_ h2 h1), pg_321, pg_331, ?_, ?_, ?_⟩
            · omega
            · omega
            · omega
        · try simp only [br] at hc49
          refine Run.seq ?_
          refine Run.region ?_
          refine RL.val (x_eqI rfl rfl) ?_
          refine RL.val (x_assignB rfl) ?_
          refine RL.nil ?_
          refine Run.cond rfl (fun hc61 => ?_) (fun hc61 => ?_)
          · try simp only [br] at hc61
            refine Run.seq ?_
            refine Run.drawT [] (m := 9) (by kernel_rfl) rfl ?_
            intro w_383 K_384
            replace hO_15 := hO_15.ext K_384
            replace hO_16 := hO_16.ext K_384
            replace hb_30 := hb_30.ext K_384
            replace K0 := K0.ext K_384
            refine ⟨fun w' => Blk w' b_27 [.int .i64 ((o).op), .int .i64 (((o).hint).owner), .string (((o).hint).key), .int .i64 ((o).now), .slice ((o).up.a) ((o).up.len) ((o).up.cap)] 63 ∧ True, ?_⟩
            refine RT.takeP (v := .pointer (some ⟨b_1, 0, none⟩)) 0 rfl (by kernel_rfl) (.inr ⟨hb_30, trivial⟩) (fun _ => (x_moveP rfl)) ?_
            refine RT.takeP (v := .pointer (some ⟨b_27, 1, none⟩)) 1 rfl (by kernel_rfl) (.inr ⟨hb_30, trivial⟩) (fun _ => (x_fld (o' := 1) Try.underlying63 rfl ty42 rfl rfl rfl)) ?_
            refine RT.take (v := .agg #[.int .i64 (((o).hint).owner), .string (((o).hint).key)]) 2 rfl (by kernel_rfl) ⟨hb_30, trivial⟩ (by rintro _ ⟨hb_30, -⟩; exact (x_lds (cs := #[.int .i64 (((o).hint).owner), .string (((o).hint).key)]) ty42 rfl rfl (hb_30.cl.drop 1 2))) ?_
            refine RT.takeP (v := .pointer (some ⟨b_7, 0, none⟩)) 4 rfl (by kernel_rfl) (.inr ⟨hb_30, trivial⟩) (fun _ => (x_moveP rfl)) ?_
            refine RT.takeP (v := .pointer (some ⟨b_27, 1, none⟩)) 5 rfl (by kernel_rfl) (.inr ⟨hb_30, trivial⟩) (fun _ => (x_fld (o' := 1) Try.underlying63 rfl ty42 rfl rfl rfl)) ?_
            refine RT.take (v := .agg #[.int .i64 (((o).hint).owner), .string (((o).hint).key)]) 6 rfl (by kernel_rfl) ⟨hb_30, trivial⟩ (by rintro _ ⟨hb_30, -⟩; exact (x_lds (cs := #[.int .i64 (((o).hint).owner), .string (((o).hint).key)]) ty42 rfl rfl (hb_30.cl.drop 1 2))) ?_
            refine RT.st 3 rfl (by kernel_rfl) rfl <| St1.call (vals := [.pointer (some ⟨b_1, 0, none⟩), .agg #[.int .i64 (((o).hint).owner), .string (((o).hint).key)]]) en22 rfl (dropB _ _ _ (L.map cv) now ((o).hint) _ hO_15 (by omega) (by omega)) ?_
            rintro _ w_387 ⟨al_385, cl_386, rfl, hB_388, hm_389, K_390⟩
            have pr_392 : ∀ q_, boxS b_1 al_385 q_ → ¬ boxS b_7 alr q_ := hm_389.apart pr_17 hO_16.own_lt
            have pr_393 : ¬ boxS b_1 al_385 b_27 := hm_389.not pr_33 hb_30.lt
            have pg_394 : ∀ q_, boxS b_1 al_385 q_ → w.heap.size ≤ q_ := hm_389.ge pr_18 K0.size
            replace hO_16 := hO_16.keepO K_390 (fun q_ h1 h2 => pr_17 q_ h2 h1)
            replace hb_30 := hb_30.keep K_390 pr_33
            replace K0 := K0.new K_390 pr_18
            clear hm_389
            refine ⟨.inr ⟨hb_30, trivial⟩, ?_⟩
            refine RT.st 7 rfl (by kernel_rfl) rfl <| St1.call (vals := [.pointer (some ⟨b_7, 0, none⟩), .agg #[.int .i64 (((o).hint).owner), .string (((o).hint).key)]]) en27 rfl (dropR _ _ _ L now ((o).hint) _ hO_16 (by omega) (by omega)) ?_
            rintro _ w_398 ⟨al_395, cl_396, L_397, rfl, hB_399, hcv, hm_400, K_401⟩
            have pr_402 : ¬ boxS b_7 al_395 b_27 := hm_400.not pr_34 hb_30.lt
            have pr_403 : ∀ q_, boxS b_7 al_395 q_ → ¬ boxS b_1 al_385 q_ := hm_400.apart (fun q_ h1 h2 => pr_392 q_ h2 h1) hB_388.own_lt
            have pg_404 : ∀ q_, boxS b_7 al_395 q_ → w.heap.size ≤ q_ := hm_400.ge pr_19 K0.size
            replace hb_30 := hb_30.keep K_401 pr_34
            replace hB_388 := hB_388.keepO K_401 pr_392
            replace K0 := K0.new K_401 pr_19
            clear hm_400
            refine ⟨.inr ⟨hb_30, trivial⟩, ?_⟩
            refine RT.takeP (v := .bool (false)) 8 rfl (by kernel_rfl) (.inr ⟨hb_30, trivial⟩) (fun _ => (litF (x_neI rfl rfl) (by simp))) ?_
            refine RT.done (by kernel_rfl) ?_
            have hL1 : L_397.length ≤ 256 := len_cv hcv (dropL_len (by rw [List.length_map]; omega))
            rw [← hcv] at hB_388
            clear hcv
            have hlm : (L_397.map cv).length = L_397.length := List.length_map ..
            have hlm2 : ((L_397.map cv).map (·.h)).length = L_397.length := by rw [List.length_map, List.length_map]
            refine Run.condF rfl ?_
            refine Run.skip ?_
            refine Run.inBlock ?_
            refine Run.seq ?_
            refine Run.region ?_
            refine RL.val (x_moveP rfl) ?_
            refine RL.st rfl <| St1.call (vals := [.pointer (some ⟨b_1, 0, none⟩)]) en24 rfl (hintsB _ _ _ (L_397.map cv) now _ hB_388.blk hB_388.own.sl (by omega)) ?_
            rintro _ w_407 ⟨a_405, c_406, rfl, ho_408, hg_409, K_410⟩
            have pr_411 : ¬ own a_405 b_27 := notNew hg_409 hb_30.lt
            have pr_412 : ∀ q_, own a_405 q_ → ¬ boxS b_1 al_385 q_ := apartNew hg_409 hB_388.own_lt
            have pr_413 : ∀ q_, own a_405 q_ → ¬ boxS b_7 al_395 q_ := apartNew hg_409 hB_399.own_lt
            have pg_414 : ∀ q_, own a_405 q_ → w.heap.size ≤ q_ := fun q_ h => Nat.le_trans K0.size (hg_409 q_ h)
            clear hg_409
            replace hb_30 := hb_30.ext K_410
            replace hB_388 := hB_388.ext K_410
            replace hB_399 := hB_399.ext K_410
            replace K0 := K0.ext K_410
            refine RL.val (x_assignSl rfl) ?_
            refine RL.nil ?_
            refine Run.seq ?_
            refine Run.seq ?_
            refine Run.drawT [] (m := 29) (by kernel_rfl) rfl ?_
            intro w_415 K_416
            replace hb_30 := hb_30.ext K_416
            replace hB_388 := hB_388.ext K_416
            replace hB_399 := hB_399.ext K_416
            replace ho_408 := ho_408.ext K_416
            replace K0 := K0.ext K_416
            refine ⟨fun w' => Blk w' b_27 [.int .i64 ((o).op), .int .i64 (((o).hint).owner), .string (((o).hint).key), .int .i64 ((o).now), .slice ((o).up.a) ((o).up.len) ((o).up.cap)] 63 ∧ True, ?_⟩
            refine RT.takeP (v := .pointer (some ⟨b_1, 0, none⟩)) 0 rfl (by kernel_rfl) (.inr ⟨hb_30, trivial⟩) (fun _ => (x_moveP rfl)) ?_
            refine RT.takeP (v := .pointer (some ⟨b_27, 1, none⟩)) 1 rfl (by kernel_rfl) (.inr ⟨hb_30, trivial⟩) (fun _ => (x_fld (o' := 1) Try.underlying63 rfl ty42 rfl rfl rfl)) ?_
            refine RT.take (v := .agg #[.int .i64 (((o).hint).owner), .string (((o).hint).key)]) 2 rfl (by kernel_rfl) ⟨hb_30, trivial⟩ (by rintro _ ⟨hb_30, -⟩; exact (x_lds (cs := #[.int .i64 (((o).hint).owner), .string (((o).hint).key)]) ty42 rfl rfl (hb_30.cl.drop 1 2))) ?_
            refine RT.takeP (v := .pointer (some ⟨b_7, 0, none⟩)) 4 rfl (by kernel_rfl) (.inr ⟨hb_30, trivial⟩) (fun _ => (x_moveP rfl)) ?_
            refine RT.takeP (v := .pointer (some ⟨b_27, 1, none⟩)) 5 rfl (by kernel_rfl) (.inr ⟨hb_30, trivial⟩) (fun _ => (x_fld (o' := 1) Try.underlying63 rfl ty42 rfl rfl rfl)) ?_
            refine RT.take (v := .agg #[.int .i64 (((o).hint).owner), .string (((o).hint).key)]) 6 rfl (by kernel_rfl) ⟨hb_30, trivial⟩ (by rintro _ ⟨hb_30, -⟩; exact (x_lds (cs := #[.int .i64 (((o).hint).owner), .string (((o).hint).key)]) ty42 rfl rfl (hb_30.cl.drop 1 2))) ?_
            refine RT.st 3 rfl (by kernel_rfl) rfl <| St1.call (vals := [.pointer (some ⟨b_1, 0, none⟩), .agg #[.int .i64 (((o).hint).owner), .string (((o).hint).key)]]) en23 rfl (hasB _ _ _ (L_397.map cv) now ((o).hint) _ hB_388.blk hB_388.own.sl (by omega)) ?_
            rintro _ w_417 ⟨rfl, K_418⟩
            replace hb_30 := hb_30.ext K_418
            replace hB_388 := hB_388.ext K_418
            replace hB_399 := hB_399.ext K_418
            replace ho_408 := ho_408.ext K_418
            replace K0 := K0.ext K_418
            refine ⟨.inr ⟨hb_30, trivial⟩, ?_⟩
            refine RT.st 7 rfl (by kernel_rfl) rfl <| St1.call (vals := [.pointer (some ⟨b_7, 0, none⟩), .agg #[.int .i64 (((o).hint).owner), .string (((o).hint).key)]]) en29 rfl (hasR _ _ _ L_397 now ((o).hint) _ hB_399.blk hB_399.own.sl (by omega)) ?_
            rintro _ w_419 ⟨rfl, K_420⟩
            replace hb_30 := hb_30.ext K_420
            replace hB_388 := hB_388.ext K_420
            replace hB_399 := hB_399.ext K_420
            replace ho_408 := ho_408.ext K_420
            replace K0 := K0.ext K_420
            refine ⟨.inr ⟨hb_30, trivial⟩, ?_⟩
            refine RT.takeP (v := .bool (false)) 8 rfl (by kernel_rfl) (.inr ⟨hb_30, trivial⟩) (fun _ => (litF (x_neB Try.underlying4 rfl rfl) (by simp))) ?_
            refine RT.takeP (v := .bool (false)) 9 rfl (by kernel_rfl) (.inr ⟨hb_30, trivial⟩) (fun _ => (x_moveB rfl)) ?_
            refine RT.gtakeP (v := .pointer (some ⟨b_1, 0, none⟩)) 10 rfl (by kernel_rfl) (.inr ⟨hb_30, trivial⟩) (wantedF1 rfl rfl rfl rfl) (fun hg _ => (x_moveP rfl)) ?_
            refine RT.gtakeP (v := .pointer (some ⟨b_27, 1, none⟩)) 11 rfl (by kernel_rfl) (.inr ⟨hb_30, trivial⟩) (wantedF1 rfl rfl rfl rfl) (fun hg _ => (x_fld (o' := 1) Try.underlying63 rfl ty42 rfl rfl rfl)) ?_
            refine RT.gtakeP (v := .pointer (some ⟨b_27, 1, none⟩)) 12 rfl (by kernel_rfl) (.inr ⟨hb_30, trivial⟩) (wantedF1 rfl rfl rfl rfl) (fun hg _ => (x_fld (o' := 1) Try.underlying42 rfl ty3 rfl rfl rfl)) ?_
            refine RT.gtake (v := .int .i64 (((o).hint).owner)) 13 rfl (by kernel_rfl) ⟨hb_30, trivial⟩ (wantedF1 rfl rfl rfl rfl) (fun hg => by rintro _ ⟨hb_30, -⟩; exact (x_ld (v := .int .i64 (((o).hint).owner)) ty3 rfl rfl (hb_30.cl.field (i := 1) rfl))) ?_
            refine RT.gtakeP (v := .pointer (some ⟨b_7, 0, none⟩)) 15 rfl (by kernel_rfl) (.inr ⟨hb_30, trivial⟩) (wantedF1 rfl rfl rfl rfl) (fun hg _ => (x_moveP rfl)) ?_
            refine RT.gtakeP (v := .pointer (some ⟨b_27, 1, none⟩)) 16 rfl (by kernel_rfl) (.inr ⟨hb_30, trivial⟩) (wantedF1 rfl rfl rfl rfl) (fun hg _ => (x_fld (o' := 1) Try.underlying63 rfl ty42 rfl rfl rfl)) ?_
            refine RT.gtakeP (v := .pointer (some ⟨b_27, 1, none⟩)) 17 rfl (by kernel_rfl) (.inr ⟨hb_30, trivial⟩) (wantedF1 rfl rfl rfl rfl) (fun hg _ => (x_fld (o' := 1) Try.underlying42 rfl ty3 rfl rfl rfl)) ?_
            refine RT.gtake (v := .int .i64 (((o).hint).owner)) 18 rfl (by kernel_rfl) ⟨hb_30, trivial⟩ (wantedF1 rfl rfl rfl rfl) (fun hg => by rintro _ ⟨hb_30, -⟩; exact (x_ld (v := .int .i64 (((o).hint).owner)) ty3 rfl rfl (hb_30.cl.field (i := 1) rfl))) ?_
            refine RT.gst 14 rfl (by kernel_rfl) (wantedF1 rfl rfl rfl rfl) <| St1.call (vals := [.pointer (some ⟨b_1, 0, none⟩), .int .i64 (((o).hint).owner)]) en21 rfl (countP16 _ _ _ (L_397.map cv) now (((o).hint).owner) _ hB_388.blk hB_388.own.sl (by omega)) ?_
            rintro _ w_421 ⟨rfl, K_422⟩
            replace hb_30 := hb_30.ext K_422
            replace hB_388 := hB_388.ext K_422
            replace hB_399 := hB_399.ext K_422
            replace ho_408 := ho_408.ext K_422
            replace K0 := K0.ext K_422
            refine ⟨.inr ⟨hb_30, trivial⟩, ?_⟩
            refine RT.gst 19 rfl (by kernel_rfl) (wantedF1 rfl rfl rfl rfl) <| St1.call (vals := [.pointer (some ⟨b_7, 0, none⟩), .int .i64 (((o).hint).owner)]) en30 rfl (countR16 _ _ _ L_397 now (((o).hint).owner) _ hB_399.blk hB_399.own.sl (by omega) hB_399.rg) ?_
            rintro _ w_423 ⟨rfl, K_424⟩
            replace hb_30 := hb_30.ext K_424
            replace hB_388 := hB_388.ext K_424
            replace hB_399 := hB_399.ext K_424
            replace ho_408 := ho_408.ext K_424
            replace K0 := K0.ext K_424
            refine ⟨.inr ⟨hb_30, trivial⟩, ?_⟩
            refine RT.gtakeP (v := .bool (false)) 20 rfl (by kernel_rfl) (.inr ⟨hb_30, trivial⟩) (wantedF1 rfl rfl rfl rfl) (fun hg _ => (litF (x_neI rfl rfl) (by simp))) ?_
            refine RT.takeP (v := .bool (false)) 21 rfl (by kernel_rfl) (.inr ⟨hb_30, trivial⟩) (fun _ => (x_orF rfl rfl rfl)) ?_
            refine RT.takeP (v := .bool (false)) 22 rfl (by kernel_rfl) (.inr ⟨hb_30, trivial⟩) (fun _ => (x_moveB rfl)) ?_
            refine RT.gtakeP (v := .slice (a_405) (((L_397.map cv).map (·.h)).length) (c_406)) 23 rfl (by kernel_rfl) (.inr ⟨hb_30, trivial⟩) (wantedF1 rfl rfl rfl rfl) (fun hg _ => (x_moveSl rfl)) ?_
            refine RT.gtakeP (v := .pointer (some ⟨b_7, 0, none⟩)) 24 rfl (by kernel_rfl) (.inr ⟨hb_30, trivial⟩) (wantedF1 rfl rfl rfl rfl) (fun hg _ => (x_moveP rfl)) ?_
            refine RT.gst 25 rfl (by kernel_rfl) (wantedF1 rfl rfl rfl rfl) <| St1.call (vals := [.pointer (some ⟨b_7, 0, none⟩)]) en31 rfl (hintsR _ _ _ L_397 now _ hB_399.blk hB_399.own.sl (by omega)) ?_
            rintro _ w_427 ⟨a_425, c_426, rfl, ho_428, hg_429, K_430⟩
            have pr_431 : ¬ own a_425 b_27 := notNew hg_429 hb_30.lt
            have pr_432 : ∀ q_, own a_425 q_ → ¬ boxS b_1 al_385 q_ := apartNew hg_429 hB_388.own_lt
            have pr_433 : ∀ q_, own a_425 q_ → ¬ boxS b_7 al_395 q_ := apartNew hg_429 hB_399.own_lt
            have pr_434 : ∀ q_, own a_425 q_ → ¬ own a_405 q_ := apartNew hg_429 ho_408.own_lt
            have pg_435 : ∀ q_, own a_425 q_ → w.heap.size ≤ q_ := fun q_ h => Nat.le_trans K0.size (hg_429 q_ h)
            clear hg_429
            replace hb_30 := hb_30.ext K_430
            replace hB_388 := hB_388.ext K_430
            replace hB_399 := hB_399.ext K_430
            replace ho_408 := ho_408.ext K_430
            replace K0 := K0.ext K_430
            refine ⟨.inr ⟨hb_30, trivial⟩, ?_⟩
            refine RT.gst 26 rfl (by kernel_rfl) (wantedF1 rfl rfl rfl rfl) <| St1.call (vals := [.slice (a_405) (((L_397.map cv).map (·.h)).length) (c_406), .slice (a_425) (((L_397.map cv).map (·.h)).length) (c_426)]) en20 rfl (equal_hint _ _ _ _ _ _ _ ho_408.sl ho_428.sl (by omega)) ?_
            rintro _ w_436 ⟨rfl, K_437⟩
            replace hb_30 := hb_30.ext K_437
            replace hB_388 := hB_388.ext K_437
            replace hB_399 := hB_399.ext K_437
            replace ho_408 := ho_408.ext K_437
            replace ho_428 := ho_428.ext K_437
            replace K0 := K0.ext K_437
            refine ⟨.inr ⟨hb_30, trivial⟩, ?_⟩
            refine RT.gtakeP (v := .bool (false)) 27 rfl (by kernel_rfl) (.inr ⟨hb_30, trivial⟩) (wantedF1 rfl rfl rfl rfl) (fun hg _ => (litF (x_not rfl) (by simp))) ?_
            refine RT.takeP (v := .bool (false)) 28 rfl (by kernel_rfl) (.inr ⟨hb_30, trivial⟩) (fun _ => (x_orF rfl rfl rfl)) ?_
            refine RT.done (by kernel_rfl) ?_
            refine Run.condF rfl ?_
            refine Run.skip ?_
            refine Run.seq ?_
            refine Run.region ?_
            refine RL.val (x_moveSl rfl) ?_
            refine RL.val (x_lenSl Try.underlying35 rfl) ?_
            refine RL.val (x_moveI rfl) ?_
            refine RL.nil ?_
            refine Run.block ?_
            refine Run.loop (ι := Nat) (fun k ρ' w' => ∃ lh : List Hint, ∃ ah : Option Addr, ∃ ch : Nat, Holds ρ' [(3, .pointer (some ⟨b_1, 0, none⟩)), (4, .pointer (some ⟨b_7, 0, none⟩)), (8, .slice (ah) (((L_397.map cv).map (·.h)).length) (ch)), (13, .slice (as0) (script.length) (cs0)), (14, .int .i64 (((script.length : Nat) : Int))), (15, .int .i64 (((i : Nat) : Int))), (16, .bool (decide (((i : Nat) : Int) < ((script.length : Nat) : Int)))), (104, .int .i64 (((((L_397.map cv).map (·.h)).length : Nat) : Int))), (105, .int .i64 (((k : Nat) : Int)))] ∧ Ext w w' ∧ (Blk w' b_27 [.int .i64 ((o).op), .int .i64 (((o).hint).owner), .string (((o).hint).key), .int .i64 ((o).now), .slice ((o).up.a) ((o).up.len) ((o).up.cap)] 63) ∧ (BoxAt w' b_1 al_385 cl_386 (L_397.map cv) now) ∧ (RBoxAt w' b_7 al_395 cl_396 L_397 now) ∧ (OwnSl w' 42 (a_425) (c_426) ((L_397.map cv).map (·.h))) ∧ (OwnSl w' 42 ah ch (lh)) ∧ (¬ own ah b_27) ∧ (∀ q_, own ah q_ → ¬ boxS b_1 al_385 q_) ∧ (∀ q_, own ah q_ → ¬ boxS b_7 al_395 q_) ∧ (∀ q_, own ah q_ → ¬ own a_425 q_) ∧ (∀ q_, own ah q_ → w.heap.size ≤ q_) ∧ (k ≤ ((L_397.map cv).map (·.h)).length) ∧ (lh.length = ((L_397.map cv).map (·.h)).length)) (fun k => ((L_397.map cv).map (·.h)).length - k) 0 ?_ ?_
            · refine ⟨_, _, _, ⟨rfl, rfl, rfl, rfl, rfl, rfl, rfl, rfl, rfl, trivial⟩, K0, hb_30, hB_388, hB_399, ho_428, ho_408, pr_411, pr_412, pr_413, (fun q_ h1 h2 => pr_434 q_ h2 h1), pg_414, ?_, ?_⟩
              · omega
              · rfl
            clear hb_30 hB_388 hB_399 ho_408 ho_428
            clear K0
            rintro k ρ_446 w_438 ⟨lh, ah, ch, hH_439, K0, hb_30, hB_388, hB_399, ho_428, ho_440, pr_441, pr_442, pr_443, pr_444, pr_445, hk, hlh⟩ ih6
            obtain ⟨ρ₀, rfl⟩ := hH_439.ex
            clear hH_439
            refine Run.seq ?_
            refine Run.region ?_
            refine RL.val (x_ltI rfl rfl) ?_
            refine RL.nil ?_
            refine Run.seq ?_
            refine Run.cond rfl (fun hc106 => ?_) (fun hc106 => ?_)
            · try simp only [br] at hc106
              refine Run.skip ?_
              refine Run.seq ?_
              refine Run.block ?_
              refine Run.seq ?_
              refine Run.region ?_
              refine RL.val (x_moveI rfl) ?_
              refine RL.val (x_assignI rfl) ?_
              refine RL.nil ?_
              refine Run.region ?_
              refine RL.val (x_moveSl rfl) ?_
              refine RL.val (x_moveI rfl) ?_
              obtain ⟨b_447, o_448, x_451, hx_452, ha_449, hc_450⟩ := ho_440.sl.el (i := k) (by first | omega | (simp only [List.length_set]; omega))
              refine RL.val (x_idxN Try.underlying35 ty42 rfl rfl ha_449 (by first | omega | (simp only [List.length_set]; omega))) ?_
              refine RL.val (x_fld (o' := o_448 + k * 2 + 1) Try.underlying42 rfl ty9 rfl rfl rfl) ?_
              refine RL.st rfl <| St1.storeEl (v := .string (⟨#[33]⟩)) (off := 1) (i := k) ({ x_451 with key := ⟨#[33]⟩ }) ty9 rfl rfl rfl (by simp [Value.cells, Value.oneCell']) ho_440 ha_449 hx_452 rfl (by decide) rfl ?_
              intro w_453 ho_455 K_454
              clear hc_450
              replace hb_30 := hb_30.keep K_454 pr_441
              replace hB_388 := hB_388.keepO K_454 (fun q_ h1 h2 => pr_442 q_ h2 h1)
              replace hB_399 := hB_399.keepO K_454 (fun q_ h1 h2 => pr_443 q_ h2 h1)
              replace ho_428 := ho_428.keepO K_454 (fun q_ h1 h2 => pr_444 q_ h2 h1)
              replace K0 := K0.new K_454 pr_445
              replace ho_440 := ho_455
              clear ho_455
              refine RL.nil ?_
              refine Run.inBlock ?_
              refine Run.region ?_
              refine RL.val (litI (c := ((k + 1 : Nat) : Int)) (x_add rfl rfl (by omega) (by omega)) rfl) ?_
              refine RL.val (x_moveI rfl) ?_
              refine RL.nil ?_
              refine ih6 (k + 1) _ _ ?_ (by omega)
              refine ⟨_, _, _, ⟨rfl, rfl, rfl, rfl, rfl, rfl, rfl, rfl, rfl, trivial⟩, K0, hb_30, hB_388, hB_399, ho_428, ho_440, pr_441, pr_442, pr_443, pr_444, pr_445, ?_, ?_⟩
              · omega
              · rw [List.length_set]; exact hlh
            · try simp only [br] at hc106
              refine Run.exit rfl ?_
              refine Run.inBlock ?_
              refine Run.region ?_
              refine RL.val (litI (c := ((i + 1 : Nat) : Int)) (x_add rfl rfl (by omega) (by omega)) rfl) ?_
              refine RL.val (x_moveI rfl) ?_
              refine RL.nil ?_
              refine ih1 (i + 1) _ _ ?_ (by omega)
              refine ⟨_, _, _, _, _, _, ⟨rfl, rfl, rfl, rfl, rfl, trivial⟩, K0, hB_388, hB_399, (fun q_ h1 h2 => pr_403 q_ h2 h1), pg_394, pg_404, ?_, ?_, ?_⟩
              · omega
              · omega
              · omega
          · try simp only [br] at hc61
            refine Run.seq ?_
            refine Run.region ?_
            refine RL.val (x_fld (o' := 4) Try.underlying63 rfl ty22 rfl rfl rfl) ?_
            refine RL.val (litSl (m' := up.length) (x_ld (v := .slice ((o).up.a) ((o).up.len) ((o).up.cap)) ty22 rfl rfl (hb_30.cl.field (i := 4) rfl)) hul) ?_
            refine RL.st rfl <| St1.call (vals := [.slice ((o).up.a) (up.length) ((o).up.cap)]) en10 rfl (clone_int _ _ _ _ (hus.ext K0) (by omega)) ?_
            rintro _ w_458 ⟨a_456, c_457, rfl, ho_459, hg_460, K_461⟩
            have pr_462 : ∀ q_, own a_456 q_ → ¬ boxS b_1 alb q_ := apartNew hg_460 hO_15.own_lt
            have pr_463 : ∀ q_, own a_456 q_ → ¬ boxS b_7 alr q_ := apartNew hg_460 hO_16.own_lt
            have pr_464 : ¬ own a_456 b_27 := notNew hg_460 hb_30.lt
            have pg_465 : ∀ q_, own a_456 q_ → w.heap.size ≤ q_ := fun q_ h => Nat.le_trans K0.size (hg_460 q_ h)
            clear hg_460
            replace hO_15 := hO_15.ext K_461
            replace hO_16 := hO_16.ext K_461
            replace hb_30 := hb_30.ext K_461
            replace K0 := K0.ext K_461
            refine RL.val (x_assignSl rfl) ?_
            refine RL.nil ?_
            refine Run.seq ?_
            have hT5 := due_T5 (max now o.now) (L.map cv) up
            refine Run.drawT [] (m := 20) (by kernel_rfl) rfl ?_
            intro w_466 K_467
            replace hO_15 := hO_15.ext K_467
            replace hO_16 := hO_16.ext K_467
            replace hb_30 := hb_30.ext K_467
            replace ho_459 := ho_459.ext K_467
            replace K0 := K0.ext K_467
            refine ⟨fun w' => Blk w' b_27 [.int .i64 ((o).op), .int .i64 (((o).hint).owner), .string (((o).hint).key), .int .i64 ((o).now), .slice ((o).up.a) ((o).up.len) ((o).up.cap)] 63 ∧ True, ?_⟩
            refine RT.takeP (v := .pointer (some ⟨b_1, 0, none⟩)) 0 rfl (by kernel_rfl) (.inr ⟨hb_30, trivial⟩) (fun _ => (x_moveP rfl)) ?_
            refine RT.takeP (v := .pointer (some ⟨b_27, 3, none⟩)) 1 rfl (by kernel_rfl) (.inr ⟨hb_30, trivial⟩) (fun _ => (x_fld (o' := 3) Try.underlying63 rfl ty3 rfl rfl rfl)) ?_
            refine RT.take (v := .int .i64 ((o).now)) 2 rfl (by kernel_rfl) ⟨hb_30, trivial⟩ (by rintro _ ⟨hb_30, -⟩; exact (x_ld (v := .int .i64 ((o).now)) ty3 rfl rfl (hb_30.cl.field (i := 3) rfl))) ?_
            refine RT.takeP (v := .slice (a_456) (up.length) (c_457)) 3 rfl (by kernel_rfl) (.inr ⟨hb_30, trivial⟩) (fun _ => (x_moveSl rfl)) ?_
            refine RT.takeP (v := .pointer (some ⟨b_7, 0, none⟩)) 5 rfl (by kernel_rfl) (.inr ⟨hb_30, trivial⟩) (fun _ => (x_moveP rfl)) ?_
            refine RT.takeP (v := .pointer (some ⟨b_27, 3, none⟩)) 6 rfl (by kernel_rfl) (.inr ⟨hb_30, trivial⟩) (fun _ => (x_fld (o' := 3) Try.underlying63 rfl ty3 rfl rfl rfl)) ?_
            refine RT.take (v := .int .i64 ((o).now)) 7 rfl (by kernel_rfl) ⟨hb_30, trivial⟩ (by rintro _ ⟨hb_30, -⟩; exact (x_ld (v := .int .i64 ((o).now)) ty3 rfl rfl (hb_30.cl.field (i := 3) rfl))) ?_
            refine RT.takeP (v := .pointer (some ⟨b_27, 4, none⟩)) 8 rfl (by kernel_rfl) (.inr ⟨hb_30, trivial⟩) (fun _ => (x_fld (o' := 4) Try.underlying63 rfl ty22 rfl rfl rfl)) ?_
            refine RT.take (v := .slice ((o).up.a) (up.length) ((o).up.cap)) 9 rfl (by kernel_rfl) ⟨hb_30, trivial⟩ (by rintro _ ⟨hb_30, -⟩; exact (litSl (m' := up.length) (x_ld (v := .slice ((o).up.a) ((o).up.len) ((o).up.cap)) ty22 rfl rfl (hb_30.cl.field (i := 4) rfl)) hul)) ?_
            refine RT.st 4 rfl (by kernel_rfl) rfl <| St1.call (vals := [.pointer (some ⟨b_1, 0, none⟩), .int .i64 ((o).now), .slice (a_456) (up.length) (c_457)]) en18 rfl (dueB _ _ _ (L.map cv) now ((o).now) _ up _ _ hO_15 (by first | omega | decide) ho_459.sl (fun x hx hb => (fun q_ h1 h2 => pr_462 q_ h2 h1) _ hb ⟨x, hx, rfl⟩) (by omega) (by omega) (mem_cv_past hO_16.rg hO_16.n0) hO_16.n0 (by omega) (by omega)) ?_
            rintro _ w_470 ⟨a_468, c_469, rfl, ho_471, hg_472, hB_473, K_474⟩
            have pr_475 : ∀ q_, own a_468 q_ → ¬ boxS b_1 alb q_ := apartNew hg_472 hO_15.own_lt
            have pr_476 : ∀ q_, own a_468 q_ → ¬ boxS b_7 alr q_ := apartNew hg_472 hO_16.own_lt
            have pr_477 : ¬ own a_468 b_27 := notNew hg_472 hb_30.lt
            have pr_478 : ∀ q_, own a_468 q_ → ¬ own a_456 q_ := apartNew hg_472 ho_459.own_lt
            have pg_479 : ∀ q_, own a_468 q_ → w.heap.size ≤ q_ := fun q_ h => Nat.le_trans K0.size (hg_472 q_ h)
            clear hg_472
            replace hO_16 := hO_16.keepO K_474 (fun q_ h1 h2 => pr_17 q_ h2 h1)
            replace hb_30 := hb_30.keep K_474 pr_33
            replace ho_459 := ho_459.keepO K_474 pr_462
            replace K0 := K0.new K_474 pr_18
            replace hO_15 := hB_473
            clear hB_473
            refine ⟨.inr ⟨hb_30, trivial⟩, ?_⟩
            refine RT.st 10 rfl (by kernel_rfl) rfl <| St1.call (vals := [.pointer (some ⟨b_7, 0, none⟩), .int .i64 ((o).now), .slice ((o).up.a) (up.length) ((o).up.cap)]) en28 rfl (dueR _ _ _ L now ((o).now) _ up _ _ hO_16 (by omega) (hus.ext K0) (fun q hq hne hb => (hub q hq).elim (fun h => absurd (pr_19 _ hb) (by omega)) hne) (by omega) (by omega) (by omega)) ?_
            rintro _ w_483 ⟨a_480, c_481, L_482, rfl, ho_484, hg_485, hB_486, hcv, hlv, K_487⟩
            have pr_488 : ∀ q_, own a_480 q_ → ¬ boxS b_1 alb q_ := apartNew hg_485 hO_15.own_lt
            have pr_489 : ∀ q_, own a_480 q_ → ¬ boxS b_7 alr q_ := apartNew hg_485 hO_16.own_lt
            have pr_490 : ¬ own a_480 b_27 := notNew hg_485 hb_30.lt
            have pr_491 : ∀ q_, own a_480 q_ → ¬ own a_456 q_ := apartNew hg_485 ho_459.own_lt
            have pr_492 : ∀ q_, own a_480 q_ → ¬ own a_468 q_ := apartNew hg_485 ho_471.own_lt
            have pg_493 : ∀ q_, own a_480 q_ → w.heap.size ≤ q_ := fun q_ h => Nat.le_trans K0.size (hg_485 q_ h)
            clear hg_485
            replace hO_15 := hO_15.keepO K_487 pr_17
            replace hb_30 := hb_30.keep K_487 pr_34
            replace ho_459 := ho_459.keepO K_487 pr_463
            replace ho_471 := ho_471.keepO K_487 pr_476
            replace K0 := K0.new K_487 pr_19
            replace hO_16 := hB_486
            clear hB_486
            refine ⟨.inr ⟨hb_30, trivial⟩, ?_⟩
            refine RT.st 11 rfl (by kernel_rfl) rfl <| St1.call (vals := [.slice (a_468) (((due (max now ((o).now)) (L.map cv) up).T).length) (c_469), .slice (a_480) (((due (max now ((o).now)) (L.map cv) up).T).length) (c_481)]) en20 rfl (equal_hint _ _ _ _ _ _ _ ho_471.sl ho_484.sl (by omega)) ?_
            rintro _ w_494 ⟨rfl, K_495⟩
            replace hO_15 := hO_15.ext K_495
            replace hO_16 := hO_16.ext K_495
            replace hb_30 := hb_30.ext K_495
            replace ho_459 := ho_459.ext K_495
            replace ho_471 := ho_471.ext K_495
            replace ho_484 := ho_484.ext K_495
            replace K0 := K0.ext K_495
            refine ⟨.inr ⟨hb_30, trivial⟩, ?_⟩
            refine RT.takeP (v := .bool (false)) 12 rfl (by kernel_rfl) (.inr ⟨hb_30, trivial⟩) (fun _ => (litF (x_not rfl) (by simp))) ?_
            refine RT.takeP (v := .bool (false)) 13 rfl (by kernel_rfl) (.inr ⟨hb_30, trivial⟩) (fun _ => (x_moveB rfl)) ?_
            refine RT.gtakeP (v := .slice (a_456) (up.length) (c_457)) 14 rfl (by kernel_rfl) (.inr ⟨hb_30, trivial⟩) (wantedF1 rfl rfl rfl rfl) (fun hg _ => (x_moveSl rfl)) ?_
            refine RT.gtakeP (v := .pointer (some ⟨b_27, 4, none⟩)) 15 rfl (by kernel_rfl) (.inr ⟨hb_30, trivial⟩) (wantedF1 rfl rfl rfl rfl) (fun hg _ => (x_fld (o' := 4) Try.underlying63 rfl ty22 rfl rfl rfl)) ?_
            refine RT.gtake (v := .slice ((o).up.a) (up.length) ((o).up.cap)) 16 rfl (by kernel_rfl) ⟨hb_30, trivial⟩ (wantedF1 rfl rfl rfl rfl) (fun hg => by rintro _ ⟨hb_30, -⟩; exact (litSl (m' := up.length) (x_ld (v := .slice ((o).up.a) ((o).up.len) ((o).up.cap)) ty22 rfl rfl (hb_30.cl.field (i := 4) rfl)) hul)) ?_
            refine RT.gst 17 rfl (by kernel_rfl) (wantedF1 rfl rfl rfl rfl) <| St1.call (vals := [.slice (a_456) (up.length) (c_457), .slice ((o).up.a) (up.length) ((o).up.cap)]) en14 rfl (equal_int _ _ _ _ _ _ _ ho_459.sl (hus.ext K0) (by omega)) ?_
            rintro _ w_496 ⟨rfl, K_497⟩
            replace hO_15 := hO_15.ext K_497
            replace hO_16 := hO_16.ext K_497
            replace hb_30 := hb_30.ext K_497
            replace ho_459 := ho_459.ext K_497
            replace ho_471 := ho_471.ext K_497
            replace ho_484 := ho_484.ext K_497
            replace K0 := K0.ext K_497
            refine ⟨.inr ⟨hb_30, trivial⟩, ?_⟩
            refine RT.gtakeP (v := .bool (false)) 18 rfl (by kernel_rfl) (.inr ⟨hb_30, trivial⟩) (wantedF1 rfl rfl rfl rfl) (fun hg _ => (litF (x_not rfl) (by simp))) ?_
            refine RT.takeP (v := .bool (false)) 19 rfl (by kernel_rfl) (.inr ⟨hb_30, trivial⟩) (fun _ => (x_orF rfl rfl rfl)) ?_
            refine RT.done (by kernel_rfl) ?_
            have hL1 : L_482.length ≤ 256 := len_cv hcv (by rw [due_Ln', List.length_map]; omega)
            rw [← hcv] at hO_15
            clear hcv
            have hlm : (L_482.map cv).length = L_482.length := List.length_map ..
            have hlm2 : ((L_482.map cv).map (·.h)).length = L_482.length := by rw [List.length_map, List.length_map]
            refine Run.condF rfl ?_
            refine Run.skip ?_
            refine Run.inBlock ?_
            refine Run.seq ?_
            refine Run.region ?_
            refine RL.val (x_moveP rfl) ?_
            refine RL.st rfl <| St1.call (vals := [.pointer (some ⟨b_1, 0, none⟩)]) en24 rfl (hintsB _ _ _ (L_482.map cv) (max now ((o).now)) _ hO_15.blk hO_15.own.sl (by omega)) ?_
            rintro _ w_500 ⟨a_498, c_499, rfl, ho_501, hg_502, K_503⟩
            have pr_504 : ∀ q_, own a_498 q_ → ¬ boxS b_1 alb q_ := apartNew hg_502 hO_15.own_lt
            have pr_505 : ∀ q_, own a_498 q_ → ¬ boxS b_7 alr q_ := apartNew hg_502 hO_16.own_lt
            have pr_506 : ¬ own a_498 b_27 := notNew hg_502 hb_30.lt
            have pr_507 : ∀ q_, own a_498 q_ → ¬ own a_456 q_ := apartNew hg_502 ho_459.own_lt
            have pr_508 : ∀ q_, own a_498 q_ → ¬ own a_468 q_ := apartNew hg_502 ho_471.own_lt
            have pr_509 : ∀ q_, own a_498 q_ → ¬ own a_480 q_ := apartNew hg_502 ho_484.own_lt
            have pg_510 : ∀ q_, own a_498 q_ → w.heap.size ≤ q_ := fun q_ h => Nat.le_trans K0.size (hg_502 q_ h)
            clear hg_502
            replace hO_15 := hO_15.ext K_503
            replace hO_16 := hO_16.ext K_503
            replace hb_30 := hb_30.ext K_503
            replace ho_459 := ho_459.ext K_503
            replace ho_471 := ho_471.ext K_503
            replace ho_484 := ho_484.ext K_503
            replace K0 := K0.ext K_503
            refine RL.val (x_assignSl rfl) ?_
            refine RL.nil ?_
            refine Run.seq ?_
            refine Run.seq ?_
            refine Run.drawT [] (m := 29) (by kernel_rfl) rfl ?_
            intro w_511 K_512
            replace hO_15 := hO_15.ext K_512
            replace hO_16 := hO_16.ext K_512
            replace hb_30 := hb_30.ext K_512
            replace ho_459 := ho_459.ext K_512
            replace ho_471 := ho_471.ext K_512
            replace ho_484 := ho_484.ext K_512
            replace ho_501 := ho_501.ext K_512
            replace K0 := K0.ext K_512
            refine ⟨fun w' => Blk w' b_27 [.int .i64 ((o).op), .int .i64 (((o).hint).owner), .string (((o).hint).key), .int .i64 ((o).now), .slice ((o).up.a) ((o).up.len) ((o).up.cap)] 63 ∧ True, ?_⟩
            refine RT.takeP (v := .pointer (some ⟨b_1, 0, none⟩)) 0 rfl (by kernel_rfl) (.inr ⟨hb_30, trivial⟩) (fun _ => (x_moveP rfl)) ?_
            refine RT.takeP (v := .pointer (some ⟨b_27, 1, none⟩)) 1 rfl (by kernel_rfl) (.inr ⟨hb_30, trivial⟩) (fun _ => (x_fld (o' := 1) Try.underlying63 rfl ty42 rfl rfl rfl)) ?_
            refine RT.take (v := .agg #[.int .i64 (((o).hint).owner), .string (((o).hint).key)]) 2 rfl (by kernel_rfl) ⟨hb_30, trivial⟩ (by rintro _ ⟨hb_30, -⟩; exact (x_lds (cs := #[.int .i64 (((o).hint).owner), .string (((o).hint).key)]) ty42 rfl rfl (hb_30.cl.drop 1 2))) ?_
            refine RT.takeP (v := .pointer (some ⟨b_7, 0, none⟩)) 4 rfl (by kernel_rfl) (.inr ⟨hb_30, trivial⟩) (fun _ => (x_moveP rfl)) ?_
            refine RT.takeP (v := .pointer (some ⟨b_27, 1, none⟩)) 5 rfl (by kernel_rfl) (.inr ⟨hb_30, trivial⟩) (fun _ => (x_fld (o' := 1) Try.underlying63 rfl ty42 rfl rfl rfl)) ?_
            refine RT.take (v := .agg #[.int .i64 (((o).hint).owner), .string (((o).hint).key)]) 6 rfl (by kernel_rfl) ⟨hb_30, trivial⟩ (by rintro _ ⟨hb_30, -⟩; exact (x_lds (cs := #[.int .i64 (((o).hint).owner), .string (((o).hint).key)]) ty42 rfl rfl (hb_30.cl.drop 1 2))) ?_
            refine RT.st 3 rfl (by kernel_rfl) rfl <| St1.call (vals := [.pointer (some ⟨b_1, 0, none⟩), .agg #[.int .i64 (((o).hint).owner), .string (((o).hint).key)]]) en23 rfl (hasB _ _ _ (L_482.map cv) (max now ((o).now)) ((o).hint) _ hO_15.blk hO_15.own.sl (by omega)) ?_
            rintro _ w_513 ⟨rfl, K_514⟩
            replace hO_15 := hO_15.ext K_514
            replace hO_16 := hO_16.ext K_514
            replace hb_30 := hb_30.ext K_514
            replace ho_459 := ho_459.ext K_514
            replace ho_471 := ho_471.ext K_514
            replace ho_484 := ho_484.ext K_514
            replace ho_501 := ho_501.ext K_514
            replace K0 := K0.ext K_514
            refine ⟨.inr ⟨hb_30, trivial⟩, ?_⟩
            refine RT.st 7 rfl (by kernel_rfl) rfl <| St1.call (vals := [.pointer (some ⟨b_7, 0, none⟩), .agg #[.int .i64 (((o).hint).owner), .string (((o).hint).key)]]) en29 rfl (hasR _ _ _ L_482 (max now ((o).now)) ((o).hint) _ hO_16.blk hO_16.own.sl (by omega)) ?_
            rintro _ w_515 ⟨rfl, K_516⟩
            replace hO_15 := hO_15.ext K_516
            replace hO_16 := hO_16.ext K_516
            replace hb_30 := hb_30.ext K_516
            replace ho_459 := ho_459.ext K_516
            replace ho_471 := ho_471.ext K_516
            replace ho_484 := ho_484.ext K_516
            replace ho_501 := ho_501.ext K_516
            replace K0 := K0.ext K_516
            refine ⟨.inr ⟨hb_30, trivial⟩, ?_⟩
            refine RT.takeP (v := .bool (false)) 8 rfl (by kernel_rfl) (.inr ⟨hb_30, trivial⟩) (fun _ => (litF (x_neB Try.underlying4 rfl rfl) (by simp))) ?_
            refine RT.takeP (v := .bool (false)) 9 rfl (by kernel_rfl) (.inr ⟨hb_30, trivial⟩) (fun _ => (x_moveB rfl)) ?_
            refine RT.gtakeP (v := .pointer (some ⟨b_1, 0, none⟩)) 10 rfl (by kernel_rfl) (.inr ⟨hb_30, trivial⟩) (wantedF1 rfl rfl rfl rfl) (fun hg _ => (x_moveP rfl)) ?_
            refine RT.gtakeP (v := .pointer (some ⟨b_27, 1, none⟩)) 11 rfl (by kernel_rfl) (.inr ⟨hb_30, trivial⟩) (wantedF1 rfl rfl rfl rfl) (fun hg _ => (x_fld (o' := 1) Try.underlying63 rfl ty42 rfl rfl rfl)) ?_
            refine RT.gtakeP (v := .pointer (some ⟨b_27, 1, none⟩)) 12 rfl (by kernel_rfl) (.inr ⟨hb_30, trivial⟩) (wantedF1 rfl rfl rfl rfl) (fun hg _ => (x_fld (o' := 1) Try.underlying42 rfl ty3 rfl rfl rfl)) ?_
            refine RT.gtake (v := .int .i64 (((o).hint).owner)) 13 rfl (by kernel_rfl) ⟨hb_30, trivial⟩ (wantedF1 rfl rfl rfl rfl) (fun hg => by rintro _ ⟨hb_30, -⟩; exact (x_ld (v := .int .i64 (((o).hint).owner)) ty3 rfl rfl (hb_30.cl.field (i := 1) rfl))) ?_
            refine RT.gtakeP (v := .pointer (some ⟨b_7, 0, none⟩)) 15 rfl (by kernel_rfl) (.inr ⟨hb_30, trivial⟩) (wantedF1 rfl rfl rfl rfl) (fun hg _ => (x_moveP rfl)) ?_
            refine RT.gtakeP (v := .pointer (some ⟨b_27, 1, none⟩)) 16 rfl (by kernel_rfl) (.inr ⟨hb_30, trivial⟩) (wantedF1 rfl rfl rfl rfl) (fun hg _ => (x_fld (o' := 1) Try.underlying63 rfl ty42 rfl rfl rfl)) ?_
            refine RT.gtakeP (v := .pointer (some ⟨b_27, 1, none⟩)) 17 rfl (by kernel_rfl) (.inr ⟨hb_30, trivial⟩) (wantedF1 rfl rfl rfl rfl) (fun hg _ => (x_fld (o' := 1) Try.underlying42 rfl ty3 rfl rfl rfl)) ?_
            refine RT.gtake (v := .int .i64 (((o).hint).owner)) 18 rfl (by kernel_rfl) ⟨hb_30, trivial⟩ (wantedF1 rfl rfl rfl rfl) (fun hg => by rintro _ ⟨hb_30, -⟩; exact (x_ld (v := .int .i64 (((o).hint).owner)) ty3 rfl rfl (hb_30.cl.field (i := 1) rfl))) ?_
            refine RT.gst 14 rfl (by kernel_rfl) (wantedF1 rfl rfl rfl rfl) <| St1.call (vals := [.pointer (some ⟨b_1, 0, none⟩), .int .i64 (((o).hint).owner)]) en21 rfl (countP16 _ _ _ (L_482.map cv) (max now ((o).now)) (((o).hint).owner) _ hO_15.blk hO_15.own.sl (by omega)) ?_
            rintro _ w_517 ⟨rfl, K_518⟩
            replace hO_15 := hO_15.ext K_518
            replace hO_16 := hO_16.ext K_518
            replace hb_30 := hb_30.ext K_518
            replace ho_459 := ho_459.ext K_518
            replace ho_471 := ho_471.ext K_518
            replace ho_484 := ho_484.ext K_518
            replace ho_501 := ho_501.ext K_518
            replace K0 := K0.ext K_518
            refine ⟨.inr ⟨hb_30, trivial⟩, ?_⟩
            refine RT.gst 19 rfl (by kernel_rfl) (wantedF1 rfl rfl rfl rfl) <| St1.call (vals := [.pointer (some ⟨b_7, 0, none⟩), .int .i64 (((o).hint).owner)]) en30 rfl (countR16 _ _ _ L_482 (max now ((o).now)) (((o).hint).owner) _ hO_16.blk hO_16.own.sl (by omega) hO_16.rg) ?_
            rintro _ w_519 ⟨rfl, K_520⟩
            replace hO_15 := hO_15.ext K_520
            replace hO_16 := hO_16.ext K_520
            replace hb_30 := hb_30.ext K_520
            replace ho_459 := ho_459.ext K_520
            replace ho_471 := ho_471.ext K_520
            replace ho_484 := ho_484.ext K_520
            replace ho_501 := ho_501.ext K_520
            replace K0 := K0.ext K_520
            refine ⟨.inr ⟨hb_30, trivial⟩, ?_⟩
            refine RT.gtakeP (v := .bool (false)) 20 rfl (by kernel_rfl) (.inr ⟨hb_30, trivial⟩) (wantedF1 rfl rfl rfl rfl) (fun hg _ => (litF (x_neI rfl rfl) (by simp))) ?_
            refine RT.takeP (v := .bool (false)) 21 rfl (by kernel_rfl) (.inr ⟨hb_30, trivial⟩) (fun _ => (x_orF rfl rfl rfl)) ?_
            refine RT.takeP (v := .bool (false)) 22 rfl (by kernel_rfl) (.inr ⟨hb_30, trivial⟩) (fun _ => (x_moveB rfl)) ?_
            refine RT.gtakeP (v := .slice (a_498) (((L_482.map cv).map (·.h)).length) (c_499)) 23 rfl (by kernel_rfl) (.inr ⟨hb_30, trivial⟩) (wantedF1 rfl rfl rfl rfl) (fun hg _ => (x_moveSl rfl)) ?_
            refine RT.gtakeP (v := .pointer (some ⟨b_7, 0, none⟩)) 24 rfl (by kernel_rfl) (.inr ⟨hb_30, trivial⟩) (wantedF1 rfl rfl rfl rfl) (fun hg _ => (x_moveP rfl)) ?_
            refine RT.gst 25 rfl (by kernel_rfl) (wantedF1 rfl rfl rfl rfl) <| St1.call (vals := [.pointer (some ⟨b_7, 0, none⟩)]) en31 rfl (hintsR _ _ _ L_482 (max now ((o).now)) _ hO_16.blk hO_16.own.sl (by omega)) ?_
            rintro _ w_523 ⟨a_521, c_522, rfl, ho_524, hg_525, K_526⟩
            have pr_527 : ∀ q_, own a_521 q_ → ¬ boxS b_1 alb q_ := apartNew hg_525 hO_15.own_lt
            have pr_528 : ∀ q_, own a_521 q_ → ¬ boxS b_7 alr q_ := apartNew hg_525 hO_16.own_lt
            have pr_529 : ¬ own a_521 b_27 := notNew hg_525 hb_30.lt
            have pr_530 : ∀ q_, own a_521 q_ → ¬ own a_456 q_ := apartNew hg_525 ho_459.own_lt
            have pr_531 : ∀ q_, own a_521 q_ → ¬ own a_468 q_ := apartNew hg_525 ho_471.own_lt
            have pr_532 : ∀ q_, own a_521 q_ → ¬ own a_480 q_ := apartNew hg_525 ho_484.own_lt
            have pr_533 : ∀ q_, own a_521 q_ → ¬ own a_498 q_ := apartNew hg_525 ho_501.own_lt
            have pg_534 : ∀ q_, own a_521 q_ → w.heap.size ≤ q_ := fun q_ h => Nat.le_trans K0.size (hg_525 q_ h)
            clear hg_525
            replace hO_15 := hO_15.ext K_526
            replace hO_16 := hO_16.ext K_526
            replace hb_30 := hb_30.ext K_526
            replace ho_459 := ho_459.ext K_526
            replace ho_471 := ho_471.ext K_526
            replace ho_484 := ho_484.ext K_526
            replace ho_501 := ho_501.ext K_526
            replace K0 := K0.ext K_526
            refine ⟨.inr ⟨hb_30, trivial⟩, ?_⟩
            refine RT.gst 26 rfl (by kernel_rfl) (wantedF1 rfl rfl rfl rfl) <| St1.call (vals := [.slice (a_498) (((L_482.map cv).map (·.h)).length) (c_499), .slice (a_521) (((L_482.map cv).map (·.h)).length) (c_522)]) en20 rfl (equal_hint _ _ _ _ _ _ _ ho_501.sl ho_524.sl (by omega)) ?_
            rintro _ w_535 ⟨rfl, K_536⟩
            replace hO_15 := hO_15.ext K_536
            replace hO_16 := hO_16.ext K_536
            replace hb_30 := hb_30.ext K_536
            replace ho_459 := ho_459.ext K_536
            replace ho_471 := ho_471.ext K_536
            replace ho_484 := ho_484.ext K_536
            replace ho_501 := ho_501.ext K_536
            replace ho_524 := ho_524.ext K_536
            replace K0 := K0.ext K_536
            refine ⟨.inr ⟨hb_30, trivial⟩, ?_⟩
            refine RT.gtakeP (v := .bool (false)) 27 rfl (by kernel_rfl) (.inr ⟨hb_30, trivial⟩) (wantedF1 rfl rfl rfl rfl) (fun hg _ => (litF (x_not rfl) (by simp))) ?_
            refine RT.takeP (v := .bool (false)) 28 rfl (by kernel_rfl) (.inr ⟨hb_30, trivial⟩) (fun _ => (x_orF rfl rfl rfl)) ?_
            refine RT.done (by kernel_rfl) ?_
            refine Run.condF rfl ?_
            refine Run.skip ?_
            refine Run.seq ?_
            refine Run.region ?_
            refine RL.val (x_moveSl rfl) ?_
            refine RL.val (x_lenSl Try.underlying35 rfl) ?_
            refine RL.val (x_moveI rfl) ?_
            refine RL.nil ?_
            refine Run.block ?_
            refine Run.loop (ι := Nat) (fun k ρ' w' => ∃ lh : List Hint, ∃ ah : Option Addr, ∃ ch : Nat, Holds ρ' [(3, .pointer (some ⟨b_1, 0, none⟩)), (4, .pointer (some ⟨b_7, 0, none⟩)), (8, .slice (ah) (((L_482.map cv).map (·.h)).length) (ch)), (13, .slice (as0) (script.length) (cs0)), (14, .int .i64 (((script.length : Nat) : Int))), (15, .int .i64 (((i : Nat) : Int))), (16, .bool (decide (((i : Nat) : Int) < ((script.length : Nat) : Int)))), (104, .int .i64 (((((L_482.map cv).map (·.h)).length : Nat) : Int))), (105, .int .i64 (((k : Nat) : Int)))] ∧ Ext w w' ∧ (Blk w' b_27 [.int .i64 ((o).op), .int .i64 (((o).hint).owner), .string (((o).hint).key), .int .i64 ((o).now), .slice ((o).up.a) ((o).up.len) ((o).up.cap)] 63) ∧ (BoxAt w' b_1 alb clb (L_482.map cv) (max now ((o).now))) ∧ (RBoxAt w' b_7 alr clr L_482 (max now ((o).now))) ∧ (OwnSl w' 3 (a_456) (c_457) (up)) ∧ (OwnSl w' 42 (a_468) (c_469) ((due (max now ((o).now)) (L.map cv) up).T)) ∧ (OwnSl w' 42 (a_480) (c_481) ((due (max now ((o).now)) (L.map cv) up).T)) ∧ (OwnSl w' 42 (a_521) (c_522) ((L_482.map cv).map (·.h))) ∧ (OwnSl w' 42 ah ch (lh)) ∧ (¬ own ah b_27) ∧ (∀ q_, own ah q_ → ¬ boxS b_1 alb q_) ∧ (∀ q_, own ah q_ → ¬ boxS b_7 alr q_) ∧ (∀ q_, own ah q_ → ¬ own a_456 q_) ∧ (∀ q_, own ah q_ → ¬ own a_468 q_) ∧ (∀ q_, own ah q_ → ¬ own a_480 q_) ∧ (∀ q_, own ah q_ → ¬ own a_521 q_) ∧ (∀ q_, own ah q_ → w.heap.size ≤ q_) ∧ (k ≤ ((L_482.map cv).map (·.h)).length) ∧ (lh.length = ((L_482.map cv).map (·.h)).length)) (fun k => ((L_482.map cv).map (·.h)).length - k) 0 ?_ ?_
            · refine ⟨_, _, _, ⟨rfl, rfl, rfl, rfl, rfl, rfl, rfl, rfl, rfl, trivial⟩, K0, hb_30, hO_15, hO_16, ho_459, ho_471, ho_484, ho_524, ho_501, pr_506, pr_504, pr_505, pr_507, pr_508, pr_509, (fun q_ h1 h2 => pr_533 q_ h2 h1), pg_510, ?_, ?_⟩
              · omega
              · rfl
            clear hO_15 hO_16 hb_30 ho_459 ho_471 ho_484 ho_501 ho_524
            clear K0
            rintro k ρ_548 w_537 ⟨lh, ah, ch, hH_538, K0, hb_30, hO_15, hO_16, ho_459, ho_471, ho_484, ho_524, ho_539, pr_540, pr_541, pr_542, pr_543, pr_544, pr_545, pr_546, pr_547, hk, hlh⟩ ih7
            obtain ⟨ρ₀, rfl⟩ := hH_538.ex
            clear hH_538
            refine Run.seq ?_
            refine Run.region ?_
            refine RL.val (x_ltI rfl rfl) ?_
            refine RL.nil ?_
            refine Run.seq ?_
            refine Run.cond rfl (fun hc106 => ?_) (fun hc106 => ?_)
            · try simp only [br] at hc106
              refine Run.skip ?_
              refine Run.seq ?_
              refine Run.block ?_
              refine Run.seq ?_
              refine Run.region ?_
              refine RL.val (x_moveI rfl) ?_
              refine RL.val (x_assignI rfl) ?_
              refine RL.nil ?_
              refine Run.region ?_
              refine RL.val (x_moveSl rfl) ?_
              refine RL.val (x_moveI rfl) ?_
              obtain ⟨b_549, o_550, x_553, hx_554, ha_551, hc_552⟩ := ho_539.sl.el (i := k) (by first | omega | (simp only [List.length_set]; omega))
              refine RL.val (x_idxN Try.underlying35 ty42 rfl rfl ha_551 (by first | omega | (simp only [List.length_set]; omega))) ?_
              refine RL.val (x_fld (o' := o_550 + k * 2 + 1) Try.underlying42 rfl ty9 rfl rfl rfl) ?_
              refine RL.st rfl <| St1.storeEl (v := .string (⟨#[33]⟩)) (off := 1) (i := k) ({ x_553 with key := ⟨#[33]⟩ }) ty9 rfl rfl rfl (by simp [Value.cells, Value.oneCell']) ho_539 ha_551 hx_554 rfl (by decide) rfl ?_
              intro w_555 ho_557 K_556
              clear hc_552
              replace hb_30 := hb_30.keep K_556 pr_540
              replace hO_15 := hO_15.keepO K_556 (fun q_ h1 h2 => pr_541 q_ h2 h1)
              replace hO_16 := hO_16.keepO K_556 (fun q_ h1 h2 => pr_542 q_ h2 h1)
              replace ho_459 := ho_459.keepO K_556 (fun q_ h1 h2 => pr_543 q_ h2 h1)
              replace ho_471 := ho_471.keepO K_556 (fun q_ h1 h2 => pr_544 q_ h2 h1)
              replace ho_484 := ho_484.keepO K_556 (fun q_ h1 h2 => pr_545 q_ h2 h1)
              replace ho_524 := ho_524.keepO K_556 (fun q_ h1 h2 => pr_546 q_ h2 h1)
              replace K0 := K0.new K_556 pr_547
              replace ho_539 := ho_557
              clear ho_557
              refine RL.nil ?_
              refine Run.inBlock ?_
              refine Run.region ?_
              refine RL.val (litI (c := ((k + 1 : Nat) : Int)) (x_add rfl rfl (by omega) (by omega)) rfl) ?_
              refine RL.val (x_moveI rfl) ?_
              refine RL.nil ?_
              refine ih7 (k + 1) _ _ ?_ (by omega)
              refine ⟨_, _, _, ⟨rfl, rfl, rfl, rfl, rfl, rfl, rfl, rfl, rfl, trivial⟩, K0, hb_30, hO_15, hO_16, ho_459, ho_471, ho_484, ho_524, ho_539, pr_540, pr_541, pr_542, pr_543, pr_544, pr_545, pr_546, pr_547, ?_, ?_⟩
              · omega
              · rw [List.length_set]; exact hlh
            · try simp only [br] at hc106
              refine Run.exit rfl ?_
              refine Run.inBlock ?_
              refine Run.region ?_
              refine RL.val (litI (c := ((i + 1 : Nat) : Int)) (x_add rfl rfl (by omega) (by omega)) rfl) ?_
              refine RL.val (x_moveI rfl) ?_
              refine RL.nil ?_
              refine ih1 (i + 1) _ _ ?_ (by omega)
              refine ⟨_, _, _, _, _, _, ⟨rfl, rfl, rfl, rfl, rfl, trivial⟩, K0, hO_15, hO_16, pr_17, pr_18, pr_19, ?_, ?_, ?_⟩
              · omega
              · omega
              · omega
  · try simp only [br] at hc16
    refine Run.exit rfl ?_
    refine Run.seq ?_
    have hlm : (L.map cv).length = L.length := List.length_map ..
    have hlm2 : ((L.map cv).map (·.h)).length = L.length := by rw [List.length_map, List.length_map]
    refine Run.region ?_
    refine RL.val (x_moveP rfl) ?_
    refine RL.st rfl <| St1.call (vals := [.pointer (some ⟨b_1, 0, none⟩)]) en24 rfl (hintsB _ _ _ (L.map cv) now _ hO_15.blk hO_15.own.sl (by omega)) ?_
    rintro _ w_560 ⟨a_558, c_559, rfl, ho_561, hg_562, K_563⟩
    have pr_564 : ∀ q_, own a_558 q_ → ¬ boxS b_1 alb q_ := apartNew hg_562 hO_15.own_lt
    have pr_565 : ∀ q_, own a_558 q_ → ¬ boxS b_7 alr q_ := apartNew hg_562 hO_16.own_lt
    have pg_566 : ∀ q_, own a_558 q_ → w.heap.size ≤ q_ := fun q_ h => Nat.le_trans K0.size (hg_562 q_ h)
    clear hg_562
    replace hO_15 := hO_15.ext K_563
    replace hO_16 := hO_16.ext K_563
    replace K0 := K0.ext K_563
    refine RL.val (x_moveP rfl) ?_
    refine RL.st rfl <| St1.call (vals := [.pointer (some ⟨b_7, 0, none⟩)]) en31 rfl (hintsR _ _ _ L now _ hO_16.blk hO_16.own.sl (by omega)) ?_
    rintro _ w_569 ⟨a_567, c_568, rfl, ho_570, hg_571, K_572⟩
    have pr_573 : ∀ q_, own a_567 q_ → ¬ boxS b_1 alb q_ := apartNew hg_571 hO_15.own_lt
    have pr_574 : ∀ q_, own a_567 q_ → ¬ boxS b_7 alr q_ := apartNew hg_571 hO_16.own_lt
    have pr_575 : ∀ q_, own a_567 q_ → ¬ own a_558 q_ := apartNew hg_571 ho_561.own_lt
    have pg_576 : ∀ q_, own a_567 q_ → w.heap.size ≤ q_ := fun q_ h => Nat.le_trans K0.size (hg_571 q_ h)
    clear hg_571
    replace hO_15 := hO_15.ext K_572
    replace hO_16 := hO_16.ext K_572
    replace ho_561 := ho_561.ext K_572
    replace K0 := K0.ext K_572
    refine RL.st rfl <| St1.call (vals := [.slice (a_558) (((L.map cv).map (·.h)).length) (c_559), .slice (a_567) (((L.map cv).map (·.h)).length) (c_568)]) en20 rfl (equal_hint _ _ _ _ _ _ _ ho_561.sl ho_570.sl (by omega)) ?_
    rintro _ w_577 ⟨rfl, K_578⟩
    replace hO_15 := hO_15.ext K_578
    replace hO_16 := hO_16.ext K_578
    replace ho_561 := ho_561.ext K_578
    replace ho_570 := ho_570.ext K_578
    replace K0 := K0.ext K_578
    refine RL.val (litT (x_moveB rfl) (by simp)) ?_
    refine RL.gst (wantedT1 rfl rfl rfl rfl) <| St1.call (vals := []) en17 rfl (awake16 _) ?_
    rintro _ w_579 ⟨rfl, K_580⟩
    replace hO_15 := hO_15.ext K_580
    replace hO_16 := hO_16.ext K_580
    replace ho_561 := ho_561.ext K_580
    replace ho_570 := ho_570.ext K_580
    replace K0 := K0.ext K_580
    refine RL.val (x_andT rfl rfl rfl) ?_
    refine RL.val (x_assignB rfl) ?_
    refine RL.nil ?_
    refine Run.ret1 (v := .bool (true)) Try.func8 rfl rfl ?_
    exact ⟨_, rfl, rfl, K0⟩

end Go.Proofs.Ytlediffjclploaa
