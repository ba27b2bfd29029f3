/-
  HandoffLives.
-/
import Derived.Test.YthhhkjmlnjbnjaaRows
import Derived.Test.YthhhkjmlnjbnjaaOp
namespace Go.Proofs.Ythhhkjmlnjbnjaa
attribute [local irreducible] St1 RL RA RT RT1 Run

/-- a call of a script: its numbers are whole words, its keys lie in memory that is not written -/
def DoOk (w : World) (o : DoC) : Prop := (-9223372036854775808 ≤ o.op ∧ o.op ≤ 9223372036854775807) ∧ o.now ≤ 9223372036854775807 ∧ ∃ kl : List ByteArray, o.keys.len = kl.length ∧ SlOf w o.keys.a kl ∧ kl.length ≤ 1048576 ∧ (∀ k ∈ kl, k.size ≤ 4294967295) ∧ ∀ x, o.keys.a = some x → x.block < w.heap.size ∨ kl = []
attribute [local irreducible] tickP onP begL canL

theorem en12 : Enters Try.prog 12 := enters_of Try.func12 rfl (by kernel_rfl)
theorem en27 : Enters Try.prog 27 := enters_of Try.func27 rfl (by kernel_rfl)
theorem en28 : Enters Try.prog 28 := enters_of Try.func28 rfl (by kernel_rfl)
theorem en29 : Enters Try.prog 29 := enters_of Try.func29 rfl (by kernel_rfl)
theorem en30 : Enters Try.prog 30 := enters_of Try.func30 rfl (by kernel_rfl)
theorem en31 : Enters Try.prog 31 := enters_of Try.func31 rfl (by kernel_rfl)
theorem en32 : Enters Try.prog 32 := enters_of Try.func32 rfl (by kernel_rfl)
theorem en33 : Enters Try.prog 33 := enters_of Try.func33 rfl (by kernel_rfl)
theorem en34 : Enters Try.prog 34 := enters_of Try.func34 rfl (by kernel_rfl)
theorem en35 : Enters Try.prog 35 := enters_of Try.func35 rfl (by kernel_rfl)
theorem en36 : Enters Try.prog 36 := enters_of Try.func36 rfl (by kernel_rfl)
theorem en37 : Enters Try.prog 37 := enters_of Try.func37 rfl (by kernel_rfl)

set_option maxRecDepth 100000 in
set_option maxHeartbeats 4000000 in
theorem law_lives (self : Int) (as0 : Option Addr) (script : List DoC) (cs0 : Nat) (w : World) (h0 : SlOf w as0 script) (hl0 : script.length ≤ 1048576) (hq : ∀ o ∈ script, DoOk w o) (hn : 0 ≤ self ∧ self < 8) :
    Calls Try.prog 8 #[.int .i64 (self), .slice (as0) (script.length) (cs0)] w (Ret (fun v w' => v = .bool true ∧ Ext w w')) := by
  refine calls_run (n := 177) Try.func8 rfl rfl rfl ?_
  refine Run.seq ?_
  refine Run.region ?_
  refine RL.val (x_assignB rfl) ?_
  refine RL.nil ?_
  refine Run.seq ?_
  refine Run.region ?_
  refine RL.val (x_moveI rfl) ?_
  refine RL.st rfl <| St1.call (vals := [.int .i64 (self)]) en10 rfl (newD self _) ?_
  rintro _ w_3 (⟨hb_7, _, _⟩ | ⟨_, s_1, F_2, rfl, hS_4, hg_5, K_6⟩)
  · exact absurd hn hb_7
  have pg_8 : ∀ q_, F_2 q_ → w.heap.size ≤ q_ := fun q_ h => Nat.le_trans (Nat.le_refl _) (hg_5 q_ h)
  clear hg_5
  have K0 := (K_6 : Ext w _)
  refine RL.val (x_moveT rfl) ?_
  refine RL.val (x_extract rfl rfl) ?_
  refine RL.val (x_extract rfl rfl) ?_
  refine RL.val (x_assignP rfl) ?_
  refine RL.val (x_assignI rfl) ?_
  refine RL.nil ?_
  refine Run.seq ?_
  refine Run.region ?_
  refine RL.val (x_moveI rfl) ?_
  refine RL.st rfl <| St1.call (vals := [.int .i64 (self)]) en28 rfl (rnewD self _) ?_
  rintro _ w_11 (⟨hb_15, _, _⟩ | ⟨_, s_9, F_10, rfl, hS_12, hg_13, K_14⟩)
  · exact absurd hn hb_15
  have pr_16 : ∀ q_, F_10 q_ → ¬ F_2 q_ := apartNew hg_13 hS_4.own_lt
  have pg_17 : ∀ q_, F_10 q_ → w.heap.size ≤ q_ := fun q_ h => Nat.le_trans K0.size (hg_13 q_ h)
  clear hg_13
  replace hS_4 := hS_4.ext K_14
  replace K0 := K0.ext K_14
  refine RL.val (x_moveT rfl) ?_
  refine RL.val (x_extract rfl rfl) ?_
  refine RL.val (x_extract rfl rfl) ?_
  refine RL.val (x_assignP rfl) ?_
  refine RL.val (x_assignI rfl) ?_
  refine RL.nil ?_
  refine Run.seq ?_
  refine Run.seq ?_
  refine Run.region ?_
  refine RL.val (x_moveI rfl) ?_
  refine RL.val (x_moveI rfl) ?_
  refine RL.val (litF (x_neI rfl rfl) (by decide)) ?_
  refine RL.val (x_moveB rfl) ?_
  refine RL.gst (wantedF1 rfl rfl rfl rfl) <| St1.val (x_moveP rfl) ?_
  refine RL.gst (wantedF1 rfl rfl rfl rfl) <| St1.val (litF (x_ptrNil Try.underlying24 rfl rfl) rfl) ?_
  refine RL.gst (wantedF1 rfl rfl rfl rfl) <| St1.val (x_moveP rfl) ?_
  refine RL.gst (wantedF1 rfl rfl rfl rfl) <| St1.val (litF (x_ptrNil Try.underlying76 rfl rfl) rfl) ?_
  refine RL.gst (wantedF1 rfl rfl rfl rfl) <| St1.val (litF (litF (x_neB Try.underlying4 rfl rfl) rfl) rfl) ?_
  refine RL.val (x_orF rfl rfl rfl) ?_
  refine RL.nil ?_
  refine Run.condF rfl ?_
  refine Run.skip ?_
  refine Run.seq ?_
  refine Run.seq ?_
  refine Run.region ?_
  refine RL.val (x_moveP rfl) ?_
  refine RL.val (litF (x_ptrNil Try.underlying76 rfl rfl) rfl) ?_
  refine RL.nil ?_
  refine Run.condF rfl ?_
  refine Run.skip ?_
  refine Run.seq ?_
  refine Run.seq ?_
  refine Run.region ?_
  refine RL.val (x_moveSl rfl) ?_
  refine RL.val (x_lenSl Try.underlying75 rfl) ?_
  refine RL.val (x_moveI rfl) ?_
  refine RL.nil ?_
  refine Run.block ?_
  refine Run.loop (ι := Nat) (fun i ρ' w' => ∃ F1 : Nat → Prop, ∃ F2 : Nat → Prop, ∃ nw : Int, ∃ rq : Int, ∃ pl : List (PTr Item), Holds ρ' [(0, .int .i64 (self)), (5, .pointer (some ⟨s_1, 0, none⟩)), (7, .pointer (some ⟨s_9, 0, none⟩)), (37, .slice (as0) (script.length) (cs0)), (38, .int .i64 (((script.length : Nat) : Int))), (39, .int .i64 (((i : Nat) : Int)))] ∧ Ext w w' ∧ (SndAt w' s_1 F1 self nw rq pl) ∧ (RSndAt w' s_9 F2 self nw rq pl) ∧ (∀ q_, F1 q_ → ¬ F2 q_) ∧ (∀ q_, F1 q_ → w.heap.size ≤ q_) ∧ (∀ q_, F2 q_ → w.heap.size ≤ q_) ∧ (i ≤ script.length) ∧ (i ≤ 81) ∧ (pl.length ≤ i) ∧ (0 ≤ rq ∧ rq ≤ 324 * (i : Int))) (fun i => script.length - i) 0 ?_ ?_
  · refine ⟨_, _, 0, 0, [], ⟨rfl, rfl, rfl, rfl, rfl, rfl, trivial⟩, K0, hS_4, hS_12, (fun q_ h1 h2 => pr_16 q_ h2 h1), pg_8, pg_17, ?_, ?_, ?_, ?_⟩
    · omega
    · omega
    · simp
    · omega
  clear hS_4 hS_12
  clear K0
  rintro i ρ_25 w_18 ⟨F1, F2, nw, rq, pl, hH_19, K0, hO_20, hO_21, pr_22, pr_23, pr_24, hi, hi2, hpl, hrq⟩ ih1
  obtain ⟨ρ₀, rfl⟩ := hH_19.ex
  clear hH_19
  refine Run.seq ?_
  refine Run.region ?_
  refine RL.val (x_ltI rfl rfl) ?_
  refine RL.nil ?_
  refine Run.seq ?_
  refine Run.cond rfl (fun hc40 => ?_) (fun hc40 => ?_)
  · try simp only [br] at hc40
    refine Run.skip ?_
    refine Run.seq ?_
    refine Run.block ?_
    refine Run.seq ?_
    refine Run.region ?_
    refine RL.val (x_moveI rfl) ?_
    obtain ⟨b_26, o_27, o, hxo, ha_28, hc_29⟩ := h0.el (i := i) (by first | omega | (simp only [List.length_set]; omega))
    have hc_29_lt := hc_29.lt
    replace hc_29 := hc_29.ext K0
    refine RL.val (x_idxN Try.underlying75 ty57 rfl rfl ha_28 (by first | omega | (simp only [List.length_set]; omega))) ?_
    refine RL.val (x_ldV (v := .agg #[.int .i64 ((o).op), .int .i64 ((o).part), .int .i64 ((o).to), .slice ((o).keys.a) ((o).keys.len) ((o).keys.cap), .int .i64 ((o).now), .int .i64 ((o).kind), .string ((o).key), .int .i64 ((o).req)]) (y := o) ty57 rfl hc_29 rfl) ?_
    refine RL.st rfl <| St1.alloc ty57 ?_
    intro b_32 w_33 hl_36 hb_35 K_34
    replace hb_35 : Blk w_33 b_32 [.int .i64 (0), .int .i64 (0), .int .i64 (0), .slice (none) (0) (0), .int .i64 (0), .int .i64 (0), .string (⟨#[]⟩), .int .i64 (0)] 57 := hb_35
    have ne_37 : b_26 < b_32 := Nat.lt_of_lt_of_le hc_29.lt hl_36
    have pr_38 : ¬ F1 b_32 := fun h => absurd (hO_20.own_lt _ h) (by omega)
    have pr_39 : ¬ F2 b_32 := fun h => absurd (hO_21.own_lt _ h) (by omega)
    have : w.heap.size ≤ b_32 := Nat.le_trans K0.size hl_36
    clear hl_36
    replace hO_20 := hO_20.ext K_34
    replace hO_21 := hO_21.ext K_34
    replace hc_29 := hc_29.ext K_34
    replace K0 := K0.ext K_34
    refine RL.val (x_assignI rfl) ?_
    refine RL.st rfl <| St1.store (v := .agg #[.int .i64 ((o).op), .int .i64 ((o).part), .int .i64 ((o).to), .slice ((o).keys.a) ((o).keys.len) ((o).keys.cap), .int .i64 ((o).now), .int .i64 ((o).kind), .string ((o).key), .int .i64 ((o).req)]) ty57 rfl rfl rfl (by simp [Value.cells, Value.oneCell']) hb_35 (by simp) ?_
    intro w_40 hb_35_ K_41
    have hb_35' : Blk w_40 b_32 [.int .i64 ((o).op), .int .i64 ((o).part), .int .i64 ((o).to), .slice ((o).keys.a) ((o).keys.len) ((o).keys.cap), .int .i64 ((o).now), .int .i64 ((o).kind), .string ((o).key), .int .i64 ((o).req)] 57 := hb_35_
    clear hb_35_
    replace hO_20 := hO_20.keepO K_41 (fun q_ hq_ eq_ => pr_38 (by simp only [one] at eq_; rw [← eq_]; exact hq_))
    replace hO_21 := hO_21.keepO K_41 (fun q_ hq_ eq_ => pr_39 (by simp only [one] at eq_; rw [← eq_]; exact hq_))
    replace hc_29 := hc_29.keep K_41 (by simp only [one]; omega)
    replace K0 := K0.new K_41 (fun x hx => by simp only [one] at hx; omega)
    replace hb_35 := hb_35'
    clear hb_35'
    refine RL.nil ?_
    obtain ⟨hop, hnow, kl, hkn, hkl, hkyl, hksz, hub⟩ := hq o (mem_of_at hxo)
    refine Run.seq ?_
    refine Run.seq ?_
    refine Run.region ?_
    refine RL.val (x_moveI rfl) ?_
    refine RL.val (x_gtI rfl rfl) ?_
    refine RL.nil ?_
    refine Run.cond rfl (fun hc45 => ?_) (fun hc45 => ?_)
    · try simp only [br] at hc45
      refine Run.exit rfl ?_
      refine Run.seq ?_
      have hol : (openL self pl).length ≤ pl.length := by have := openL_len (self := self) (pl := pl) (i := pl.length); rwa [List.take_length] at this
      refine Run.region ?_
      refine RL.val (x_moveP rfl) ?_
      refine RL.st rfl <| St1.call (vals := [.pointer (some ⟨s_1, 0, none⟩)]) en21 rfl (openD hO_20 (by first | decide | assumption | omega)) ?_
      rintro _ w_44 ⟨a_42, c_43, rfl, ho_45, hg_46, K_47⟩
      have pr_48 : ∀ q_, own a_42 q_ → ¬ F1 q_ := apartNew hg_46 hO_20.own_lt
      have pr_49 : ∀ q_, own a_42 q_ → ¬ F2 q_ := apartNew hg_46 hO_21.own_lt
      have pr_50 : ¬ own a_42 b_32 := notNew hg_46 hb_35.lt
      have pg_51 : ∀ q_, own a_42 q_ → w.heap.size ≤ q_ := fun q_ h => Nat.le_trans K0.size (hg_46 q_ h)
      clear hg_46
      replace hO_20 := hO_20.ext K_47
      replace hO_21 := hO_21.ext K_47
      replace hb_35 := hb_35.ext K_47
      replace K0 := K0.ext K_47
      refine RL.val (x_moveP rfl) ?_
      refine RL.st rfl <| St1.call (vals := [.pointer (some ⟨s_9, 0, none⟩)]) en35 rfl (ropenD hO_21 (by first | decide | assumption | omega)) ?_
      rintro _ w_54 ⟨a_52, c_53, rfl, ho_55, hg_56, K_57⟩
      have pr_58 : ∀ q_, own a_52 q_ → ¬ F1 q_ := apartNew hg_56 hO_20.own_lt
      have pr_59 : ∀ q_, own a_52 q_ → ¬ F2 q_ := apartNew hg_56 hO_21.own_lt
      have pr_60 : ¬ own a_52 b_32 := notNew hg_56 hb_35.lt
      have pr_61 : ∀ q_, own a_52 q_ → ¬ own a_42 q_ := apartNew hg_56 ho_45.own_lt
      have pg_62 : ∀ q_, own a_52 q_ → w.heap.size ≤ q_ := fun q_ h => Nat.le_trans K0.size (hg_56 q_ h)
      clear hg_56
      replace hO_20 := hO_20.ext K_57
      replace hO_21 := hO_21.ext K_57
      replace hb_35 := hb_35.ext K_57
      replace ho_45 := ho_45.ext K_57
      replace K0 := K0.ext K_57
      refine RL.st rfl <| St1.call (vals := [.slice (a_42) ((openL self pl).length) (c_43), .slice (a_52) ((openL self pl).length) (c_53)]) en34 rfl (equalT (equal_move _ (openL self pl) _ _ _ _ _ ho_45.sl ho_55.sl (by omega))) ?_
      rintro _ w_63 ⟨rfl, K_64⟩
      replace hO_20 := hO_20.ext K_64
      replace hO_21 := hO_21.ext K_64
      replace hb_35 := hb_35.ext K_64
      replace ho_45 := ho_45.ext K_64
      replace ho_55 := ho_55.ext K_64
      replace K0 := K0.ext K_64
      refine RL.val (x_moveB rfl) ?_
      refine RL.gst (wantedT1 rfl rfl rfl rfl) <| St1.call (vals := []) en13 rfl (awake_ _) ?_
      rintro _ w_65 ⟨rfl, K_66⟩
      replace hO_20 := hO_20.ext K_66
      replace hO_21 := hO_21.ext K_66
      replace hb_35 := hb_35.ext K_66
      replace ho_45 := ho_45.ext K_66
      replace ho_55 := ho_55.ext K_66
      replace K0 := K0.ext K_66
      refine RL.val (x_andT rfl rfl rfl) ?_
      refine RL.val (x_assignB rfl) ?_
      refine RL.nil ?_
      refine Run.ret1 (v := .bool (true)) Try.func8 rfl rfl ?_
      exact ⟨_, rfl, rfl, K0⟩
    · try simp only [br] at hc45
      refine Run.skip ?_
      refine Run.seq ?_
      refine Run.region ?_
      refine RL.val (x_assignB rfl) ?_
      refine RL.nil ?_
      refine Run.seq ?_
      refine Run.seq ?_
      refine Run.region ?_
      refine RL.val (x_fld (o' := 0) Try.underlying57 rfl ty3 rfl rfl rfl) ?_
      refine RL.val (x_ld (v := .int .i64 ((o).op)) ty3 rfl rfl (hb_35.cl.field (i := 0) rfl)) ?_
      refine RL.val (x_convI rfl ⟨_, Try.underlying3⟩ Try.underlying30) ?_
      refine RL.val (x_rem rfl rfl (by decide)) ?_
      refine RL.nil ?_
      refine Run.block ?_
      refine Run.seq ?_
      refine Run.region ?_
      refine RL.val (x_eqI rfl rfl) ?_
      refine RL.val (x_assignB rfl) ?_
      refine RL.nil ?_
      refine Run.cond rfl (fun hc65 => ?_) (fun hc65 => ?_)
      · try simp only [br] at hc65
        refine Run.seq ?_
        refine Run.region ?_
        refine RL.val (x_fld (o' := 3) Try.underlying57 rfl ty22 rfl rfl rfl) ?_
        refine RL.val (litSl (m' := kl.length) (x_ld (v := .slice ((o).keys.a) ((o).keys.len) ((o).keys.cap)) ty22 rfl rfl (hb_35.cl.field (i := 3) rfl)) hkn) ?_
        refine RL.st rfl <| St1.call (vals := [.slice ((o).keys.a) (kl.length) ((o).keys.cap)]) en12 rfl (clone_str _ _ _ _ (hkl.ext K0) (by omega)) ?_
        rintro _ w_69 ⟨a_67, c_68, rfl, ho_70, hg_71, K_72⟩
        have pr_73 : ∀ q_, own a_67 q_ → ¬ F1 q_ := apartNew hg_71 hO_20.own_lt
        have pr_74 : ∀ q_, own a_67 q_ → ¬ F2 q_ := apartNew hg_71 hO_21.own_lt
        have pr_75 : ¬ own a_67 b_32 := notNew hg_71 hb_35.lt
        have pg_76 : ∀ q_, own a_67 q_ → w.heap.size ≤ q_ := fun q_ h => Nat.le_trans K0.size (hg_71 q_ h)
        clear hg_71
        replace hO_20 := hO_20.ext K_72
        replace hO_21 := hO_21.ext K_72
        replace hb_35 := hb_35.ext K_72
        replace K0 := K0.ext K_72
        refine RL.val (x_assignSl rfl) ?_
        refine RL.nil ?_
        refine Run.seq ?_
        refine Run.drawT [] (m := 23) (by kernel_rfl) rfl ?_
        intro w_77 K_78
        replace hO_20 := hO_20.ext K_78
        replace hO_21 := hO_21.ext K_78
        replace hb_35 := hb_35.ext K_78
        replace ho_70 := ho_70.ext K_78
        replace K0 := K0.ext K_78
        refine ⟨fun w' => Blk w' b_32 [.int .i64 ((o).op), .int .i64 ((o).part), .int .i64 ((o).to), .slice ((o).keys.a) ((o).keys.len) ((o).keys.cap), .int .i64 ((o).now), .int .i64 ((o).kind), .string ((o).key), .int .i64 ((o).req)] 57 ∧ True, ?_⟩
        refine RT.takeP (v := .pointer (some ⟨s_1, 0, none⟩)) 0 rfl (by kernel_rfl) (.inr ⟨hb_35, trivial⟩) (fun _ => (x_moveP rfl)) ?_
        refine RT.takeP (v := .pointer (some ⟨b_32, 1, none⟩)) 1 rfl (by kernel_rfl) (.inr ⟨hb_35, trivial⟩) (fun _ => (x_fld (o' := 1) Try.underlying57 rfl ty3 rfl rfl rfl)) ?_
        refine RT.take (v := .int .i64 ((o).part)) 2 rfl (by kernel_rfl) ⟨hb_35, trivial⟩ (by rintro _ ⟨hb_35, -⟩; exact (x_ld (v := .int .i64 ((o).part)) ty3 rfl rfl (hb_35.cl.field (i := 1) rfl))) ?_
        refine RT.takeP (v := .pointer (some ⟨b_32, 2, none⟩)) 3 rfl (by kernel_rfl) (.inr ⟨hb_35, trivial⟩) (fun _ => (x_fld (o' := 2) Try.underlying57 rfl ty3 rfl rfl rfl)) ?_
        refine RT.take (v := .int .i64 ((o).to)) 4 rfl (by kernel_rfl) ⟨hb_35, trivial⟩ (by rintro _ ⟨hb_35, -⟩; exact (x_ld (v := .int .i64 ((o).to)) ty3 rfl rfl (hb_35.cl.field (i := 2) rfl))) ?_
        refine RT.takeP (v := .slice (a_67) (kl.length) (c_68)) 5 rfl (by kernel_rfl) (.inr ⟨hb_35, trivial⟩) (fun _ => (x_moveSl rfl)) ?_
        refine RT.takeP (v := .pointer (some ⟨s_9, 0, none⟩)) 7 rfl (by kernel_rfl) (.inr ⟨hb_35, trivial⟩) (fun _ => (x_moveP rfl)) ?_
        refine RT.takeP (v := .pointer (some ⟨b_32, 1, none⟩)) 8 rfl (by kernel_rfl) (.inr ⟨hb_35, trivial⟩) (fun _ => (x_fld (o' := 1) Try.underlying57 rfl ty3 rfl rfl rfl)) ?_
        refine RT.take (v := .int .i64 ((o).part)) 9 rfl (by kernel_rfl) ⟨hb_35, trivial⟩ (by rintro _ ⟨hb_35, -⟩; exact (x_ld (v := .int .i64 ((o).part)) ty3 rfl rfl (hb_35.cl.field (i := 1) rfl))) ?_
        refine RT.takeP (v := .pointer (some ⟨b_32, 2, none⟩)) 10 rfl (by kernel_rfl) (.inr ⟨hb_35, trivial⟩) (fun _ => (x_fld (o' := 2) Try.underlying57 rfl ty3 rfl rfl rfl)) ?_
        refine RT.take (v := .int .i64 ((o).to)) 11 rfl (by kernel_rfl) ⟨hb_35, trivial⟩ (by rintro _ ⟨hb_35, -⟩; exact (x_ld (v := .int .i64 ((o).to)) ty3 rfl rfl (hb_35.cl.field (i := 2) rfl))) ?_
        refine RT.takeP (v := .pointer (some ⟨b_32, 3, none⟩)) 12 rfl (by kernel_rfl) (.inr ⟨hb_35, trivial⟩) (fun _ => (x_fld (o' := 3) Try.underlying57 rfl ty22 rfl rfl rfl)) ?_
        refine RT.take (v := .slice ((o).keys.a) (kl.length) ((o).keys.cap)) 13 rfl (by kernel_rfl) ⟨hb_35, trivial⟩ (by rintro _ ⟨hb_35, -⟩; exact (litSl (m' := kl.length) (x_ld (v := .slice ((o).keys.a) ((o).keys.len) ((o).keys.cap)) ty22 rfl rfl (hb_35.cl.field (i := 3) rfl)) hkn)) ?_
        refine RT.st 6 rfl (by kernel_rfl) rfl <| St1.call (vals := [.pointer (some ⟨s_1, 0, none⟩), .int .i64 ((o).part), .int .i64 ((o).to), .slice (a_67) (kl.length) (c_68)]) en11 rfl (beginD hO_20 ((o).part) ((o).to) _ kl _ (by first | decide | assumption | omega) ho_70.sl (fun x_ hx_ => pr_73 _ ⟨x_, hx_, rfl⟩) (by first | decide | assumption | omega) (by assumption)) ?_
        rintro _ w_80 ⟨F_79, rfl, hS_81, hm_82, K_83⟩
        have pr_84 : ∀ q_, F_79 q_ → ¬ F2 q_ := hm_82.apart pr_22 hO_21.own_lt
        have pr_85 : ¬ F_79 b_32 := hm_82.not pr_38 hb_35.lt
        have pr_86 : ∀ q_, F_79 q_ → ¬ own a_67 q_ := hm_82.apart (fun q_ h1 h2 => pr_73 q_ h2 h1) ho_70.own_lt
        have pg_87 : ∀ q_, F_79 q_ → w.heap.size ≤ q_ := hm_82.ge pr_23 K0.size
        replace hO_21 := hO_21.keepO K_83 (fun q_ h1 h2 => pr_22 q_ h2 h1)
        replace hb_35 := hb_35.keep K_83 pr_38
        replace ho_70 := ho_70.keepO K_83 pr_73
        replace K0 := K0.new K_83 pr_23
        clear hm_82
        refine ⟨.inr ⟨hb_35, trivial⟩, ?_⟩
        refine RT.st 14 rfl (by kernel_rfl) rfl <| St1.call (vals := [.pointer (some ⟨s_9, 0, none⟩), .int .i64 ((o).part), .int .i64 ((o).to), .slice ((o).keys.a) (kl.length) ((o).keys.cap)]) en29 rfl (rbeginD hO_21 ((o).part) ((o).to) _ kl _ (by first | decide | assumption | omega) (hkl.ext K0) (fun q hq hne hb => (hub q hq).elim (fun h => absurd (pr_24 _ hb) (by omega)) hne) hkyl hksz) ?_
        rintro _ w_89 ⟨F_88, rfl, hS_90, hm_91, K_92⟩
        have pr_93 : ¬ F_88 b_32 := hm_91.not pr_39 hb_35.lt
        have pr_94 : ∀ q_, F_88 q_ → ¬ own a_67 q_ := hm_91.apart (fun q_ h1 h2 => pr_74 q_ h2 h1) ho_70.own_lt
        have pr_95 : ∀ q_, F_88 q_ → ¬ F_79 q_ := hm_91.apart (fun q_ h1 h2 => pr_84 q_ h2 h1) hS_81.own_lt
        have pg_96 : ∀ q_, F_88 q_ → w.heap.size ≤ q_ := hm_91.ge pr_24 K0.size
        replace hb_35 := hb_35.keep K_92 pr_39
        replace ho_70 := ho_70.keepO K_92 pr_74
        replace hS_81 := hS_81.keepO K_92 pr_84
        replace K0 := K0.new K_92 pr_24
        clear hm_91
        refine ⟨.inr ⟨hb_35, trivial⟩, ?_⟩
        refine RT.takeP (v := .bool (true)) 15 rfl (by kernel_rfl) (.inr ⟨hb_35, trivial⟩) (fun _ => (litT (x_eqI rfl rfl) (by simp))) ?_
        refine RT.takeP (v := .bool (true)) 16 rfl (by kernel_rfl) (.inr ⟨hb_35, trivial⟩) (fun _ => (x_moveB rfl)) ?_
        refine RT.gtakeP (v := .slice (a_67) (kl.length) (c_68)) 17 rfl (by kernel_rfl) (.inr ⟨hb_35, trivial⟩) (wantedT1 rfl rfl rfl rfl) (fun hg _ => (x_moveSl rfl)) ?_
        refine RT.gtakeP (v := .pointer (some ⟨b_32, 3, none⟩)) 18 rfl (by kernel_rfl) (.inr ⟨hb_35, trivial⟩) (wantedT1 rfl rfl rfl rfl) (fun hg _ => (x_fld (o' := 3) Try.underlying57 rfl ty22 rfl rfl rfl)) ?_
        refine RT.gtake (v := .slice ((o).keys.a) (kl.length) ((o).keys.cap)) 19 rfl (by kernel_rfl) ⟨hb_35, trivial⟩ (wantedT1 rfl rfl rfl rfl) (fun hg => by rintro _ ⟨hb_35, -⟩; exact (litSl (m' := kl.length) (x_ld (v := .slice ((o).keys.a) ((o).keys.len) ((o).keys.cap)) ty22 rfl rfl (hb_35.cl.field (i := 3) rfl)) hkn)) ?_
        refine RT.gst 20 rfl (by kernel_rfl) (wantedT1 rfl rfl rfl rfl) <| St1.call (vals := [.slice (a_67) (kl.length) (c_68), .slice ((o).keys.a) (kl.length) ((o).keys.cap)]) en27 rfl (equalT (equal_str _ kl _ _ _ _ _ ho_70.sl (hkl.ext K0) (by omega))) ?_
        rintro _ w_97 ⟨rfl, K_98⟩
        replace hb_35 := hb_35.ext K_98
        replace ho_70 := ho_70.ext K_98
        replace hS_81 := hS_81.ext K_98
        replace hS_90 := hS_90.ext K_98
        replace K0 := K0.ext K_98
        refine ⟨.inr ⟨hb_35, trivial⟩, ?_⟩
        refine RT.takeP (v := .bool (true)) 21 rfl (by kernel_rfl) (.inr ⟨hb_35, trivial⟩) (fun _ => (x_andT rfl rfl rfl)) ?_
        refine RT.takeP (v := .bool (true)) 22 rfl (by kernel_rfl) (.inr ⟨hb_35, trivial⟩) (fun _ => (x_assignB rfl)) ?_
        refine RT.done (by kernel_rfl) ?_
        refine Run.seq ?_
        have hz1 := begL_len (self := self) (pl := pl) (part := o.part) (to := o.to) (keys := kl) (nl := newI (uniq (sortN kl)))
        refine Run.region ?_
        refine RL.val (x_moveSl rfl) ?_
        refine RL.val (x_lenSl Try.underlying22 rfl) ?_
        refine RL.val (x_moveI rfl) ?_
        refine RL.nil ?_
        refine Run.block ?_
        refine Run.loop (ι := Nat) (fun j ρ' w' => ∃ a9 : Option Addr, ∃ c9 : Nat, ∃ L9 : List ByteArray, Holds ρ' [(0, .int .i64 (self)), (5, .pointer (some ⟨s_1, 0, none⟩)), (7, .pointer (some ⟨s_9, 0, none⟩)), (10, .pointer (some ⟨b_32, 0, none⟩)), (11, .bool (true)), (12, .slice (a9) (kl.length) (c9)), (37, .slice (as0) (script.length) (cs0)), (38, .int .i64 (((script.length : Nat) : Int))), (39, .int .i64 (((i : Nat) : Int))), (40, .bool (decide (((i : Nat) : Int) < ((script.length : Nat) : Int)))), (93, .int .i64 (((kl.length : Nat) : Int))), (94, .int .i64 (((j : Nat) : Int)))] ∧ Ext w w' ∧ (Blk w' b_32 [.int .i64 ((o).op), .int .i64 ((o).part), .int .i64 ((o).to), .slice ((o).keys.a) ((o).keys.len) ((o).keys.cap), .int .i64 ((o).now), .int .i64 ((o).kind), .string ((o).key), .int .i64 ((o).req)] 57) ∧ (SndAt w' s_1 F_79 self nw rq (begL self pl ((o).part) ((o).to) kl (newI (uniq (sortN kl))))) ∧ (RSndAt w' s_9 F_88 self nw rq (begL self pl ((o).part) ((o).to) kl (newI (uniq (sortN kl))))) ∧ (OwnSl w' 9 a9 c9 (L9)) ∧ (¬ own a9 b_32) ∧ (∀ q_, own a9 q_ → ¬ F_79 q_) ∧ (∀ q_, own a9 q_ → ¬ F_88 q_) ∧ (∀ q_, own a9 q_ → w.heap.size ≤ q_) ∧ (j ≤ kl.length) ∧ (L9.length = kl.length)) (fun j => kl.length - j) 0 ?_ ?_
        · refine ⟨_, _, _, ⟨rfl, rfl, rfl, rfl, rfl, rfl, rfl, rfl, rfl, rfl, rfl, rfl, trivial⟩, K0, hb_35, hS_81, hS_90, ho_70, pr_75, (fun q_ h1 h2 => pr_86 q_ h2 h1), (fun q_ h1 h2 => pr_94 q_ h2 h1), pg_76, ?_, ?_⟩
          · omega
          · rfl
        clear hb_35 ho_70 hS_81 hS_90
        clear K0
        rintro j ρ_106 w_99 ⟨a9, c9, L9, hH_100, K0, hb_35, hS_81, hS_90, ho_101, pr_102, pr_103, pr_104, pr_105, hj, hL9⟩ ih2
        obtain ⟨ρ₀, rfl⟩ := hH_100.ex
        clear hH_100
        refine Run.seq ?_
        refine Run.region ?_
        refine RL.val (x_ltI rfl rfl) ?_
        refine RL.nil ?_
        refine Run.seq ?_
        refine Run.cond rfl (fun hc95 => ?_) (fun hc95 => ?_)
        · try simp only [br] at hc95
          refine Run.skip ?_
          refine Run.seq ?_
          refine Run.block ?_
          refine Run.seq ?_
          refine Run.region ?_
          refine RL.val (x_moveI rfl) ?_
          refine RL.val (x_assignI rfl) ?_
          refine RL.nil ?_
          refine Run.region ?_
          refine RL.val (x_moveSl rfl) ?_
          refine RL.val (x_moveI rfl) ?_
          obtain ⟨b_107, o_108, x_111, hx_112, ha_109, hc_110⟩ := ho_101.sl.el (i := j) (by omega)
          refine RL.val (x_idxN Try.underlying22 ty9 rfl rfl ha_109 (by omega)) ?_
          refine RL.st rfl <| St1.storeEl (v := .string (⟨#[33]⟩)) (off := 0) (i := j) ⟨#[33]⟩ ty9 rfl rfl rfl (by simp [Value.cells, Value.oneCell']) ho_101 ha_109 hx_112 rfl (by decide) rfl ?_
          intro w_113 ho_115 K_114
          clear hc_110
          replace hb_35 := hb_35.keep K_114 pr_102
          replace hS_81 := hS_81.keepO K_114 (fun q_ h1 h2 => pr_103 q_ h2 h1)
          replace hS_90 := hS_90.keepO K_114 (fun q_ h1 h2 => pr_104 q_ h2 h1)
          replace K0 := K0.new K_114 pr_105
          replace ho_101 := ho_115
          clear ho_115
          refine RL.nil ?_
          refine Run.inBlock ?_
          refine Run.region ?_
          refine RL.val (litI (c := ((j + 1 : Nat) : Int)) (x_add rfl rfl (by omega) (by omega)) rfl) ?_
          refine RL.val (x_moveI rfl) ?_
          refine RL.nil ?_
          refine ih2 (j + 1) _ _ ?_ (by omega)
          refine ⟨_, _, _, ⟨rfl, rfl, rfl, rfl, rfl, rfl, rfl, rfl, rfl, rfl, rfl, rfl, trivial⟩, K0, hb_35, hS_81, hS_90, ho_101, pr_102, pr_103, pr_104, pr_105, ?_, ?_⟩
          · omega
          · simpa using hL9
        · try simp only [br] at hc95
          refine Run.exit rfl ?_
          refine Run.inBlock ?_
          refine Run.seq ?_
          have hol : (openL self (begL self pl ((o).part) ((o).to) kl (newI (uniq (sortN kl))))).length ≤ (begL self pl ((o).part) ((o).to) kl (newI (uniq (sortN kl)))).length := by have := openL_len (self := self) (pl := (begL self pl ((o).part) ((o).to) kl (newI (uniq (sortN kl))))) (i := (begL self pl ((o).part) ((o).to) kl (newI (uniq (sortN kl)))).length); rwa [List.take_length] at this
          refine Run.drawT [] (m := 40) (by kernel_rfl) rfl ?_
          intro w_116 K_117
          replace hb_35 := hb_35.ext K_117
          replace hS_81 := hS_81.ext K_117
          replace hS_90 := hS_90.ext K_117
          replace ho_101 := ho_101.ext K_117
          replace K0 := K0.ext K_117
          refine ⟨fun w' => Blk w' b_32 [.int .i64 ((o).op), .int .i64 ((o).part), .int .i64 ((o).to), .slice ((o).keys.a) ((o).keys.len) ((o).keys.cap), .int .i64 ((o).now), .int .i64 ((o).kind), .string ((o).key), .int .i64 ((o).req)] 57 ∧ True, ?_⟩
          refine RT.takeP (v := .bool (true)) 0 rfl (by kernel_rfl) (.inr ⟨hb_35, trivial⟩) (fun _ => (x_moveB rfl)) ?_
          refine RT.takeP (v := .bool (false)) 1 rfl (by kernel_rfl) (.inr ⟨hb_35, trivial⟩) (fun _ => (x_not (b := true) rfl)) ?_
          refine RT.takeP (v := .bool (false)) 2 rfl (by kernel_rfl) (.inr ⟨hb_35, trivial⟩) (fun _ => (x_moveB rfl)) ?_
          refine RT.gtakeP (v := .pointer (some ⟨s_1, 0, none⟩)) 3 rfl (by kernel_rfl) (.inr ⟨hb_35, trivial⟩) (wantedF1 rfl rfl rfl rfl) (fun hg _ => (x_moveP rfl)) ?_
          refine RT.gtakeP (v := .pointer (some ⟨s_9, 0, none⟩)) 5 rfl (by kernel_rfl) (.inr ⟨hb_35, trivial⟩) (wantedF1 rfl rfl rfl rfl) (fun hg _ => (x_moveP rfl)) ?_
          refine RT.gst 4 rfl (by kernel_rfl) (wantedF1 rfl rfl rfl rfl) <| St1.call (vals := [.pointer (some ⟨s_1, 0, none⟩)]) en21 rfl (openD hS_81 (by first | decide | assumption | omega)) ?_
          rintro _ w_120 ⟨a_118, c_119, rfl, ho_121, hg_122, K_123⟩
          have pr_124 : ¬ own a_118 b_32 := notNew hg_122 hb_35.lt
          have pr_125 : ∀ q_, own a_118 q_ → ¬ F_79 q_ := apartNew hg_122 hS_81.own_lt
          have pr_126 : ∀ q_, own a_118 q_ → ¬ F_88 q_ := apartNew hg_122 hS_90.own_lt
          have pr_127 : ∀ q_, own a_118 q_ → ¬ own a9 q_ := apartNew hg_122 ho_101.own_lt
          have pg_128 : ∀ q_, own a_118 q_ → w.heap.size ≤ q_ := fun q_ h => Nat.le_trans K0.size (hg_122 q_ h)
          clear hg_122
          replace hb_35 := hb_35.ext K_123
          replace hS_81 := hS_81.ext K_123
          replace hS_90 := hS_90.ext K_123
          replace ho_101 := ho_101.ext K_123
          replace K0 := K0.ext K_123
          refine ⟨.inr ⟨hb_35, trivial⟩, ?_⟩
          refine RT.gst 6 rfl (by kernel_rfl) (wantedF1 rfl rfl rfl rfl) <| St1.call (vals := [.pointer (some ⟨s_9, 0, none⟩)]) en35 rfl (ropenD hS_90 (by first | decide | assumption | omega)) ?_
          rintro _ w_131 ⟨a_129, c_130, rfl, ho_132, hg_133, K_134⟩
          have pr_135 : ¬ own a_129 b_32 := notNew hg_133 hb_35.lt
          have pr_136 : ∀ q_, own a_129 q_ → ¬ F_79 q_ := apartNew hg_133 hS_81.own_lt
          have pr_137 : ∀ q_, own a_129 q_ → ¬ F_88 q_ := apartNew hg_133 hS_90.own_lt
          have pr_138 : ∀ q_, own a_129 q_ → ¬ own a9 q_ := apartNew hg_133 ho_101.own_lt
          have pr_139 : ∀ q_, own a_129 q_ → ¬ own a_118 q_ := apartNew hg_133 ho_121.own_lt
          have pg_140 : ∀ q_, own a_129 q_ → w.heap.size ≤ q_ := fun q_ h => Nat.le_trans K0.size (hg_133 q_ h)
          clear hg_133
          replace hb_35 := hb_35.ext K_134
          replace hS_81 := hS_81.ext K_134
          replace hS_90 := hS_90.ext K_134
          replace ho_101 := ho_101.ext K_134
          replace ho_121 := ho_121.ext K_134
          replace K0 := K0.ext K_134
          refine ⟨.inr ⟨hb_35, trivial⟩, ?_⟩
          refine RT.gst 7 rfl (by kernel_rfl) (wantedF1 rfl rfl rfl rfl) <| St1.call (vals := [.slice (a_118) ((openL self (begL self pl ((o).part) ((o).to) kl (newI (uniq (sortN kl))))).length) (c_119), .slice (a_129) ((openL self (begL self pl ((o).part) ((o).to) kl (newI (uniq (sortN kl))))).length) (c_130)]) en34 rfl (equalT (equal_move _ (openL self (begL self pl ((o).part) ((o).to) kl (newI (uniq (sortN kl))))) _ _ _ _ _ ho_121.sl ho_132.sl (by omega))) ?_
          rintro _ w_141 ⟨rfl, K_142⟩
          replace hb_35 := hb_35.ext K_142
          replace hS_81 := hS_81.ext K_142
          replace hS_90 := hS_90.ext K_142
          replace ho_101 := ho_101.ext K_142
          replace ho_121 := ho_121.ext K_142
          replace ho_132 := ho_132.ext K_142
          replace K0 := K0.ext K_142
          refine ⟨.inr ⟨hb_35, trivial⟩, ?_⟩
          refine RT.gtakeP (v := .bool (false)) 8 rfl (by kernel_rfl) (.inr ⟨hb_35, trivial⟩) (wantedF1 rfl rfl rfl rfl) (fun hg _ => (x_not (b := true) rfl)) ?_
          refine RT.takeP (v := .bool (false)) 9 rfl (by kernel_rfl) (.inr ⟨hb_35, trivial⟩) (fun _ => (x_orF rfl rfl rfl)) ?_
          refine RT.takeP (v := .bool (false)) 10 rfl (by kernel_rfl) (.inr ⟨hb_35, trivial⟩) (fun _ => (x_moveB rfl)) ?_
          refine RT.gtakeP (v := .pointer (some ⟨s_1, 0, none⟩)) 11 rfl (by kernel_rfl) (.inr ⟨hb_35, trivial⟩) (wantedF1 rfl rfl rfl rfl) (fun hg _ => (x_moveP rfl)) ?_
          refine RT.gtakeP (v := .pointer (some ⟨b_32, 1, none⟩)) 12 rfl (by kernel_rfl) (.inr ⟨hb_35, trivial⟩) (wantedF1 rfl rfl rfl rfl) (fun hg _ => (x_fld (o' := 1) Try.underlying57 rfl ty3 rfl rfl rfl)) ?_
          refine RT.gtake (v := .int .i64 ((o).part)) 13 rfl (by kernel_rfl) ⟨hb_35, trivial⟩ (wantedF1 rfl rfl rfl rfl) (fun hg => by rintro _ ⟨hb_35, -⟩; exact (x_ld (v := .int .i64 ((o).part)) ty3 rfl rfl (hb_35.cl.field (i := 1) rfl))) ?_
          refine RT.gtakeP (v := .pointer (some ⟨b_32, 2, none⟩)) 14 rfl (by kernel_rfl) (.inr ⟨hb_35, trivial⟩) (wantedF1 rfl rfl rfl rfl) (fun hg _ => (x_fld (o' := 2) Try.underlying57 rfl ty3 rfl rfl rfl)) ?_
          refine RT.gtake (v := .int .i64 ((o).to)) 15 rfl (by kernel_rfl) ⟨hb_35, trivial⟩ (wantedF1 rfl rfl rfl rfl) (fun hg => by rintro _ ⟨hb_35, -⟩; exact (x_ld (v := .int .i64 ((o).to)) ty3 rfl rfl (hb_35.cl.field (i := 2) rfl))) ?_
          refine RT.gtakeP (v := .pointer (some ⟨s_9, 0, none⟩)) 17 rfl (by kernel_rfl) (.inr ⟨hb_35, trivial⟩) (wantedF1 rfl rfl rfl rfl) (fun hg _ => (x_moveP rfl)) ?_
          refine RT.gtakeP (v := .pointer (some ⟨b_32, 1, none⟩)) 18 rfl (by kernel_rfl) (.inr ⟨hb_35, trivial⟩) (wantedF1 rfl rfl rfl rfl) (fun hg _ => (x_fld (o' := 1) Try.underlying57 rfl ty3 rfl rfl rfl)) ?_
          refine RT.gtake (v := .int .i64 ((o).part)) 19 rfl (by kernel_rfl) ⟨hb_35, trivial⟩ (wantedF1 rfl rfl rfl rfl) (fun hg => by rintro _ ⟨hb_35, -⟩; exact (x_ld (v := .int .i64 ((o).part)) ty3 rfl rfl (hb_35.cl.field (i := 1) rfl))) ?_
          refine RT.gtakeP (v := .pointer (some ⟨b_32, 2, none⟩)) 20 rfl (by kernel_rfl) (.inr ⟨hb_35, trivial⟩) (wantedF1 rfl rfl rfl rfl) (fun hg _ => (x_fld (o' := 2) Try.underlying57 rfl ty3 rfl rfl rfl)) ?_
          refine RT.gtake (v := .int .i64 ((o).to)) 21 rfl (by kernel_rfl) ⟨hb_35, trivial⟩ (wantedF1 rfl rfl rfl rfl) (fun hg => by rintro _ ⟨hb_35, -⟩; exact (x_ld (v := .int .i64 ((o).to)) ty3 rfl rfl (hb_35.cl.field (i := 2) rfl))) ?_
          refine RT.gst 16 rfl (by kernel_rfl) (wantedF1 rfl rfl rfl rfl) <| St1.call (vals := [.pointer (some ⟨s_1, 0, none⟩), .int .i64 ((o).part), .int .i64 ((o).to)]) en18 rfl (doneD hS_81 ((o).part) ((o).to) (by first | decide | assumption | omega)) ?_
          rintro _ w_143 ⟨rfl, K_144⟩
          replace hb_35 := hb_35.ext K_144
          replace hS_81 := hS_81.ext K_144
          replace hS_90 := hS_90.ext K_144
          replace ho_101 := ho_101.ext K_144
          replace ho_121 := ho_121.ext K_144
          replace ho_132 := ho_132.ext K_144
          replace K0 := K0.ext K_144
          refine ⟨.inr ⟨hb_35, trivial⟩, ?_⟩
          refine RT.gst 22 rfl (by kernel_rfl) (wantedF1 rfl rfl rfl rfl) <| St1.call (vals := [.pointer (some ⟨s_9, 0, none⟩), .int .i64 ((o).part), .int .i64 ((o).to)]) en36 rfl (rdoneD hS_90 ((o).part) ((o).to) (by first | decide | assumption | omega)) ?_
          rintro _ w_145 ⟨rfl, K_146⟩
          replace hb_35 := hb_35.ext K_146
          replace hS_81 := hS_81.ext K_146
          replace hS_90 := hS_90.ext K_146
          replace ho_101 := ho_101.ext K_146
          replace ho_121 := ho_121.ext K_146
          replace ho_132 := ho_132.ext K_146
          replace K0 := K0.ext K_146
          refine ⟨.inr ⟨hb_35, trivial⟩, ?_⟩
          refine RT.gtakeP (v := .bool (false)) 23 rfl (by kernel_rfl) (.inr ⟨hb_35, trivial⟩) (wantedF1 rfl rfl rfl rfl) (fun hg _ => (litF (x_neB Try.underlying4 rfl rfl) (by simp))) ?_
          refine RT.takeP (v := .bool (false)) 24 rfl (by kernel_rfl) (.inr ⟨hb_35, trivial⟩) (fun _ => (x_orF rfl rfl rfl)) ?_
          refine RT.takeP (v := .bool (false)) 25 rfl (by kernel_rfl) (.inr ⟨hb_35, trivial⟩) (fun _ => (x_moveB rfl)) ?_
          refine RT.gtakeP (v := .pointer (some ⟨s_1, 0, none⟩)) 26 rfl (by kernel_rfl) (.inr ⟨hb_35, trivial⟩) (wantedF1 rfl rfl rfl rfl) (fun hg _ => (x_moveP rfl)) ?_
          refine RT.gtakeP (v := .pointer (some ⟨b_32, 1, none⟩)) 27 rfl (by kernel_rfl) (.inr ⟨hb_35, trivial⟩) (wantedF1 rfl rfl rfl rfl) (fun hg _ => (x_fld (o' := 1) Try.underlying57 rfl ty3 rfl rfl rfl)) ?_
          refine RT.gtake (v := .int .i64 ((o).part)) 28 rfl (by kernel_rfl) ⟨hb_35, trivial⟩ (wantedF1 rfl rfl rfl rfl) (fun hg => by rintro _ ⟨hb_35, -⟩; exact (x_ld (v := .int .i64 ((o).part)) ty3 rfl rfl (hb_35.cl.field (i := 1) rfl))) ?_
          refine RT.gtakeP (v := .pointer (some ⟨b_32, 2, none⟩)) 29 rfl (by kernel_rfl) (.inr ⟨hb_35, trivial⟩) (wantedF1 rfl rfl rfl rfl) (fun hg _ => (x_fld (o' := 2) Try.underlying57 rfl ty3 rfl rfl rfl)) ?_
          refine RT.gtake (v := .int .i64 ((o).to)) 30 rfl (by kernel_rfl) ⟨hb_35, trivial⟩ (wantedF1 rfl rfl rfl rfl) (fun hg => by rintro _ ⟨hb_35, -⟩; exact (x_ld (v := .int .i64 ((o).to)) ty3 rfl rfl (hb_35.cl.field (i := 2) rfl))) ?_
          refine RT.gtakeP (v := .pointer (some ⟨s_9, 0, none⟩)) 32 rfl (by kernel_rfl) (.inr ⟨hb_35, trivial⟩) (wantedF1 rfl rfl rfl rfl) (fun hg _ => (x_moveP rfl)) ?_
          refine RT.gtakeP (v := .pointer (some ⟨b_32, 1, none⟩)) 33 rfl (by kernel_rfl) (.inr ⟨hb_35, trivial⟩) (wantedF1 rfl rfl rfl rfl) (fun hg _ => (x_fld (o' := 1) Try.underlying57 rfl ty3 rfl rfl rfl)) ?_
          refine RT.gtake (v := .int .i64 ((o).part)) 34 rfl (by kernel_rfl) ⟨hb_35, trivial⟩ (wantedF1 rfl rfl rfl rfl) (fun hg => by rintro _ ⟨hb_35, -⟩; exact (x_ld (v := .int .i64 ((o).part)) ty3 rfl rfl (hb_35.cl.field (i := 1) rfl))) ?_
          refine RT.gtakeP (v := .pointer (some ⟨b_32, 2, none⟩)) 35 rfl (by kernel_rfl) (.inr ⟨hb_35, trivial⟩) (wantedF1 rfl rfl rfl rfl) (fun hg _ => (x_fld (o' := 2) Try.underlying57 rfl ty3 rfl rfl rfl)) ?_
          refine RT.gtake (v := .int .i64 ((o).to)) 36 rfl (by kernel_rfl) ⟨hb_35, trivial⟩ (wantedF1 rfl rfl rfl rfl) (fun hg => by rintro _ ⟨hb_35, -⟩; exact (x_ld (v := .int .i64 ((o).to)) ty3 rfl rfl (hb_35.cl.field (i := 2) rfl))) ?_
          refine RT.gst 31 rfl (by kernel_rfl) (wantedF1 rfl rfl rfl rfl) <| St1.call (vals := [.pointer (some ⟨s_1, 0, none⟩), .int .i64 ((o).part), .int .i64 ((o).to)]) en17 rfl (leftD hS_81 ((o).part) ((o).to) (by first | decide | assumption | omega)) ?_
          rintro _ w_147 ⟨rfl, K_148⟩
          replace hb_35 := hb_35.ext K_148
          replace hS_81 := hS_81.ext K_148
          replace hS_90 := hS_90.ext K_148
          replace ho_101 := ho_101.ext K_148
          replace ho_121 := ho_121.ext K_148
          replace ho_132 := ho_132.ext K_148
          replace K0 := K0.ext K_148
          refine ⟨.inr ⟨hb_35, trivial⟩, ?_⟩
          refine RT.gst 37 rfl (by kernel_rfl) (wantedF1 rfl rfl rfl rfl) <| St1.call (vals := [.pointer (some ⟨s_9, 0, none⟩), .int .i64 ((o).part), .int .i64 ((o).to)]) en37 rfl (rleftD hS_90 ((o).part) ((o).to) (by first | decide | assumption | omega)) ?_
          rintro _ w_149 ⟨rfl, K_150⟩
          replace hb_35 := hb_35.ext K_150
          replace hS_81 := hS_81.ext K_150
          replace hS_90 := hS_90.ext K_150
          replace ho_101 := ho_101.ext K_150
          replace ho_121 := ho_121.ext K_150
          replace ho_132 := ho_132.ext K_150
          replace K0 := K0.ext K_150
          refine ⟨.inr ⟨hb_35, trivial⟩, ?_⟩
          refine RT.gtakeP (v := .bool (false)) 38 rfl (by kernel_rfl) (.inr ⟨hb_35, trivial⟩) (wantedF1 rfl rfl rfl rfl) (fun hg _ => (litF (x_neI rfl rfl) (by simp))) ?_
          refine RT.takeP (v := .bool (false)) 39 rfl (by kernel_rfl) (.inr ⟨hb_35, trivial⟩) (fun _ => (x_orF rfl rfl rfl)) ?_
          refine RT.done (by kernel_rfl) ?_
          refine Run.condF rfl ?_
          refine Run.skip ?_
          refine Run.inBlock ?_
          refine Run.region ?_
          refine RL.val (litI (c := ((i + 1 : Nat) : Int)) (x_add rfl rfl (by omega) (by omega)) rfl) ?_
          refine RL.val (x_moveI rfl) ?_
          refine RL.nil ?_
          refine ih1 (i + 1) _ _ ?_ (by omega)
          refine ⟨F_79, F_88, nw, rq, begL self pl ((o).part) ((o).to) kl (newI (uniq (sortN kl))), ⟨rfl, rfl, rfl, rfl, rfl, rfl, trivial⟩, K0, hS_81, hS_90, (fun q_ h1 h2 => pr_95 q_ h2 h1), pg_87, pg_96, ?_, ?_, ?_, ?_⟩
          · omega
          · omega
          · omega
          · omega
      · try simp only [br] at hc65
        refine Run.seq ?_
        refine Run.region ?_
        refine RL.val (x_eqI rfl rfl) ?_
        refine RL.val (x_assignB rfl) ?_
        refine RL.nil ?_
        refine Run.cond rfl (fun hc101 => ?_) (fun hc101 => ?_)
        · try simp only [br] at hc101
          refine Run.drawT [] (m := 14) (by kernel_rfl) rfl ?_
          intro w_151 K_152
          replace hO_20 := hO_20.ext K_152
          replace hO_21 := hO_21.ext K_152
          replace hb_35 := hb_35.ext K_152
          replace K0 := K0.ext K_152
          refine ⟨fun w' => Blk w' b_32 [.int .i64 ((o).op), .int .i64 ((o).part), .int .i64 ((o).to), .slice ((o).keys.a) ((o).keys.len) ((o).keys.cap), .int .i64 ((o).now), .int .i64 ((o).kind), .string ((o).key), .int .i64 ((o).req)] 57 ∧ True, ?_⟩
          refine RT.takeP (v := .pointer (some ⟨s_1, 0, none⟩)) 0 rfl (by kernel_rfl) (.inr ⟨hb_35, trivial⟩) (fun _ => (x_moveP rfl)) ?_
          refine RT.takeP (v := .pointer (some ⟨b_32, 1, none⟩)) 1 rfl (by kernel_rfl) (.inr ⟨hb_35, trivial⟩) (fun _ => (x_fld (o' := 1) Try.underlying57 rfl ty3 rfl rfl rfl)) ?_
          refine RT.take (v := .int .i64 ((o).part)) 2 rfl (by kernel_rfl) ⟨hb_35, trivial⟩ (by rintro _ ⟨hb_35, -⟩; exact (x_ld (v := .int .i64 ((o).part)) ty3 rfl rfl (hb_35.cl.field (i := 1) rfl))) ?_
          refine RT.takeP (v := .pointer (some ⟨b_32, 2, none⟩)) 3 rfl (by kernel_rfl) (.inr ⟨hb_35, trivial⟩) (fun _ => (x_fld (o' := 2) Try.underlying57 rfl ty3 rfl rfl rfl)) ?_
          refine RT.take (v := .int .i64 ((o).to)) 4 rfl (by kernel_rfl) ⟨hb_35, trivial⟩ (by rintro _ ⟨hb_35, -⟩; exact (x_ld (v := .int .i64 ((o).to)) ty3 rfl rfl (hb_35.cl.field (i := 2) rfl))) ?_
          refine RT.takeP (v := .pointer (some ⟨s_9, 0, none⟩)) 6 rfl (by kernel_rfl) (.inr ⟨hb_35, trivial⟩) (fun _ => (x_moveP rfl)) ?_
          refine RT.takeP (v := .pointer (some ⟨b_32, 1, none⟩)) 7 rfl (by kernel_rfl) (.inr ⟨hb_35, trivial⟩) (fun _ => (x_fld (o' := 1) Try.underlying57 rfl ty3 rfl rfl rfl)) ?_
          refine RT.take (v := .int .i64 ((o).part)) 8 rfl (by kernel_rfl) ⟨hb_35, trivial⟩ (by rintro _ ⟨hb_35, -⟩; exact (x_ld (v := .int .i64 ((o).part)) ty3 rfl rfl (hb_35.cl.field (i := 1) rfl))) ?_
          refine RT.takeP (v := .pointer (some ⟨b_32, 2, none⟩)) 9 rfl (by kernel_rfl) (.inr ⟨hb_35, trivial⟩) (fun _ => (x_fld (o' := 2) Try.underlying57 rfl ty3 rfl rfl rfl)) ?_
          refine RT.take (v := .int .i64 ((o).to)) 10 rfl (by kernel_rfl) ⟨hb_35, trivial⟩ (by rintro _ ⟨hb_35, -⟩; exact (x_ld (v := .int .i64 ((o).to)) ty3 rfl rfl (hb_35.cl.field (i := 2) rfl))) ?_
          refine RT.st 5 rfl (by kernel_rfl) rfl <| St1.call (vals := [.pointer (some ⟨s_1, 0, none⟩), .int .i64 ((o).part), .int .i64 ((o).to)]) en19 rfl (cancelD hO_20 ((o).part) ((o).to) (by first | decide | assumption | omega)) ?_
          rintro _ w_154 ⟨F_153, rfl, hS_155, hm_156, K_157⟩
          have pr_158 : ∀ q_, F_153 q_ → ¬ F2 q_ := hm_156.apart pr_22 hO_21.own_lt
          have pr_159 : ¬ F_153 b_32 := hm_156.not pr_38 hb_35.lt
          have pg_160 : ∀ q_, F_153 q_ → w.heap.size ≤ q_ := hm_156.ge pr_23 K0.size
          replace hO_21 := hO_21.keepO K_157 (fun q_ h1 h2 => pr_22 q_ h2 h1)
          replace hb_35 := hb_35.keep K_157 pr_38
          replace K0 := K0.new K_157 pr_23
          clear hm_156
          refine ⟨.inr ⟨hb_35, trivial⟩, ?_⟩
          refine RT.st 11 rfl (by kernel_rfl) rfl <| St1.call (vals := [.pointer (some ⟨s_9, 0, none⟩), .int .i64 ((o).part), .int .i64 ((o).to)]) en30 rfl (rcancelD hO_21 ((o).part) ((o).to) (by first | decide | assumption | omega)) ?_
          rintro _ w_162 ⟨F_161, rfl, hS_163, hm_164, K_165⟩
          have pr_166 : ¬ F_161 b_32 := hm_164.not pr_39 hb_35.lt
          have pr_167 : ∀ q_, F_161 q_ → ¬ F_153 q_ := hm_164.apart (fun q_ h1 h2 => pr_158 q_ h2 h1) hS_155.own_lt
          have pg_168 : ∀ q_, F_161 q_ → w.heap.size ≤ q_ := hm_164.ge pr_24 K0.size
          replace hb_35 := hb_35.keep K_165 pr_39
          replace hS_155 := hS_155.keepO K_165 pr_158
          replace K0 := K0.new K_165 pr_24
          clear hm_164
          refine ⟨.inr ⟨hb_35, trivial⟩, ?_⟩
          refine RT.takeP (v := .bool (true)) 12 rfl (by kernel_rfl) (.inr ⟨hb_35, trivial⟩) (fun _ => (litT (x_eqI rfl rfl) (by simp))) ?_
          refine RT.takeP (v := .bool (true)) 13 rfl (by kernel_rfl) (.inr ⟨hb_35, trivial⟩) (fun _ => (x_assignB rfl)) ?_
          refine RT.done (by kernel_rfl) ?_
          have hz1 := canL_len (self := self) (pl := pl) (part := o.part) (to := o.to)
          refine Run.inBlock ?_
          refine Run.seq ?_
          have hol : (openL self (canL self pl ((o).part) ((o).to))).length ≤ (canL self pl ((o).part) ((o).to)).length := by have := openL_len (self := self) (pl := (canL self pl ((o).part) ((o).to))) (i := (canL self pl ((o).part) ((o).to)).length); rwa [List.take_length] at this
          refine Run.drawT [] (m := 40) (by kernel_rfl) rfl ?_
          intro w_169 K_170
          replace hb_35 := hb_35.ext K_170
          replace hS_155 := hS_155.ext K_170
          replace hS_163 := hS_163.ext K_170
          replace K0 := K0.ext K_170
          refine ⟨fun w' => Blk w' b_32 [.int .i64 ((o).op), .int .i64 ((o).part), .int .i64 ((o).to), .slice ((o).keys.a) ((o).keys.len) ((o).keys.cap), .int .i64 ((o).now), .int .i64 ((o).kind), .string ((o).key), .int .i64 ((o).req)] 57 ∧ True, ?_⟩
          refine RT.takeP (v := .bool (true)) 0 rfl (by kernel_rfl) (.inr ⟨hb_35, trivial⟩) (fun _ => (x_moveB rfl)) ?_
          refine RT.takeP (v := .bool (false)) 1 rfl (by kernel_rfl) (.inr ⟨hb_35, trivial⟩) (fun _ => (x_not (b := true) rfl)) ?_
          refine RT.takeP (v := .bool (false)) 2 rfl (by kernel_rfl) (.inr ⟨hb_35, trivial⟩) (fun _ => (x_moveB rfl)) ?_
          refine RT.gtakeP (v := .pointer (some ⟨s_1, 0, none⟩)) 3 rfl (by kernel_rfl) (.inr ⟨hb_35, trivial⟩) (wantedF1 rfl rfl rfl rfl) (fun hg _ => (x_moveP rfl)) ?_
          refine RT.gtakeP (v := .pointer (some ⟨s_9, 0, none⟩)) 5 rfl (by kernel_rfl) (.inr ⟨hb_35, trivial⟩) (wantedF1 rfl rfl rfl rfl) (fun hg _ => (x_moveP rfl)) ?_
          refine RT.gst 4 rfl (by kernel_rfl) (wantedF1 rfl rfl rfl rfl) <| St1.call (vals := [.pointer (some ⟨s_1, 0, none⟩)]) en21 rfl (openD hS_155 (by first | decide | assumption | omega)) ?_
          rintro _ w_173 ⟨a_171, c_172, rfl, ho_174, hg_175, K_176⟩
          have pr_177 : ¬ own a_171 b_32 := notNew hg_175 hb_35.lt
          have pr_178 : ∀ q_, own a_171 q_ → ¬ F_153 q_ := apartNew hg_175 hS_155.own_lt
          have pr_179 : ∀ q_, own a_171 q_ → ¬ F_161 q_ := apartNew hg_175 hS_163.own_lt
          have pg_180 : ∀ q_, own a_171 q_ → w.heap.size ≤ q_ := fun q_ h => Nat.le_trans K0.size (hg_175 q_ h)
          clear hg_175
          replace hb_35 := hb_35.ext K_176
          replace hS_155 := hS_155.ext K_176
          replace hS_163 := hS_163.ext K_176
          replace K0 := K0.ext K_176
          refine ⟨.inr ⟨hb_35, trivial⟩, ?_⟩
          refine RT.gst 6 rfl (by kernel_rfl) (wantedF1 rfl rfl rfl rfl) <| St1.call (vals := [.pointer (some ⟨s_9, 0, none⟩)]) en35 rfl (ropenD hS_163 (by first | decide | assumption | omega)) ?_
          rintro _ w_183 ⟨a_181, c_182, rfl, ho_184, hg_185, K_186⟩
          have pr_187 : ¬ own a_181 b_32 := notNew hg_185 hb_35.lt
          have pr_188 : ∀ q_, own a_181 q_ → ¬ F_153 q_ := apartNew hg_185 hS_155.own_lt
          have pr_189 : ∀ q_, own a_181 q_ → ¬ F_161 q_ := apartNew hg_185 hS_163.own_lt
          have pr_190 : ∀ q_, own a_181 q_ → ¬ own a_171 q_ := apartNew hg_185 ho_174.own_lt
          have pg_191 : ∀ q_, own a_181 q_ → w.heap.size ≤ q_ := fun q_ h => Nat.le_trans K0.size (hg_185 q_ h)
          clear hg_185
          replace hb_35 := hb_35.ext K_186
          replace hS_155 := hS_155.ext K_186
          replace hS_163 := hS_163.ext K_186
          replace ho_174 := ho_174.ext K_186
          replace K0 := K0.ext K_186
          refine ⟨.inr ⟨hb_35, trivial⟩, ?_⟩
          refine RT.gst 7 rfl (by kernel_rfl) (wantedF1 rfl rfl rfl rfl) <| St1.call (vals := [.slice (a_171) ((openL self (canL self pl ((o).part) ((o).to))).length) (c_172), .slice (a_181) ((openL self (canL self pl ((o).part) ((o).to))).length) (c_182)]) en34 rfl (equalT (equal_move _ (openL self (canL self pl ((o).part) ((o).to))) _ _ _ _ _ ho_174.sl ho_184.sl (by omega))) ?_
          rintro _ w_192 ⟨rfl, K_193⟩
          replace hb_35 := hb_35.ext K_193
          replace hS_155 := hS_155.ext K_193
          replace hS_163 := hS_163.ext K_193
          replace ho_174 := ho_174.ext K_193
          replace ho_184 := ho_184.ext K_193
          replace K0 := K0.ext K_193
          refine ⟨.inr ⟨hb_35, trivial⟩, ?_⟩
          refine RT.gtakeP (v := .bool (false)) 8 rfl (by kernel_rfl) (.inr ⟨hb_35, trivial⟩) (wantedF1 rfl rfl rfl rfl) (fun hg _ => (x_not (b := true) rfl)) ?_
          refine RT.takeP (v := .bool (false)) 9 rfl (by kernel_rfl) (.inr ⟨hb_35, trivial⟩) (fun _ => (x_orF rfl rfl rfl)) ?_
          refine RT.takeP (v := .bool (false)) 10 rfl (by kernel_rfl) (.inr ⟨hb_35, trivial⟩) (fun _ => (x_moveB rfl)) ?_
          refine RT.gtakeP (v := .pointer (some ⟨s_1, 0, none⟩)) 11 rfl (by kernel_rfl) (.inr ⟨hb_35, trivial⟩) (wantedF1 rfl rfl rfl rfl) (fun hg _ => (x_moveP rfl)) ?_
          refine RT.gtakeP (v := .pointer (some ⟨b_32, 1, none⟩)) 12 rfl (by kernel_rfl) (.inr ⟨hb_35, trivial⟩) (wantedF1 rfl rfl rfl rfl) (fun hg _ => (x_fld (o' := 1) Try.underlying57 rfl ty3 rfl rfl rfl)) ?_
          refine RT.gtake (v := .int .i64 ((o).part)) 13 rfl (by kernel_rfl) ⟨hb_35, trivial⟩ (wantedF1 rfl rfl rfl rfl) (fun hg => by rintro _ ⟨hb_35, -⟩; exact (x_ld (v := .int .i64 ((o).part)) ty3 rfl rfl (hb_35.cl.field (i := 1) rfl))) ?_
          refine RT.gtakeP (v := .pointer (some ⟨b_32, 2, none⟩)) 14 rfl (by kernel_rfl) (.inr ⟨hb_35, trivial⟩) (wantedF1 rfl rfl rfl rfl) (fun hg _ => (x_fld (o' := 2) Try.underlying57 rfl ty3 rfl rfl rfl)) ?_
          refine RT.gtake (v := .int .i64 ((o).to)) 15 rfl (by kernel_rfl) ⟨hb_35, trivial⟩ (wantedF1 rfl rfl rfl rfl) (fun hg => by rintro _ ⟨hb_35, -⟩; exact (x_ld (v := .int .i64 ((o).to)) ty3 rfl rfl (hb_35.cl.field (i := 2) rfl))) ?_
          refine RT.gtakeP (v := .pointer (some ⟨s_9, 0, none⟩)) 17 rfl (by kernel_rfl) (.inr ⟨hb_35, trivial⟩) (wantedF1 rfl rfl rfl rfl) (fun hg _ => (x_moveP rfl)) ?_
          refine RT.gtakeP (v := .pointer (some ⟨b_32, 1, none⟩)) 18 rfl (by kernel_rfl) (.inr ⟨hb_35, trivial⟩) (wantedF1 rfl rfl rfl rfl) (fun hg _ => (x_fld (o' := 1) Try.underlying57 rfl ty3 rfl rfl rfl)) ?_
          refine RT.gtake (v := .int .i64 ((o).part)) 19 rfl (by kernel_rfl) ⟨hb_35, trivial⟩ (wantedF1 rfl rfl rfl rfl) (fun hg => by rintro _ ⟨hb_35, -⟩; exact (x_ld (v := .int .i64 ((o).part)) ty3 rfl rfl (hb_35.cl.field (i := 1) rfl))) ?_
          refine RT.gtakeP (v := .pointer (some ⟨b_32, 2, none⟩)) 20 rfl (by kernel_rfl) (.inr ⟨hb_35, trivial⟩) (wantedF1 rfl rfl rfl rfl) (fun hg _ => (x_fld (o' := 2) Try.underlying57 rfl ty3 rfl rfl rfl)) ?_
          refine RT.gtake (v := .int .i64 ((o).to)) 21 rfl (by kernel_rfl) ⟨hb_35, trivial⟩ (wantedF1 rfl rfl rfl rfl) (fun hg => by rintro _ ⟨hb_35, -⟩; exact (x_ld (v := .int .i64 ((o).to)) ty3 rfl rfl (hb_35.cl.field (i := 2) rfl))) ?_
          refine RT.gst 16 rfl (by kernel_rfl) (wantedF1 rfl rfl rfl rfl) <| St1.call (vals := [.pointer (some ⟨s_1, 0, none⟩), .int .i64 ((o).part), .int .i64 ((o).to)]) en18 rfl (doneD hS_155 ((o).part) ((o).to) (by first | decide | assumption | omega)) ?_
          rintro _ w_194 ⟨rfl, K_195⟩
          replace hb_35 := hb_35.ext K_195
          replace hS_155 := hS_155.ext K_195
          replace hS_163 := hS_163.ext K_195
          replace ho_174 := ho_174.ext K_195
          replace ho_184 := ho_184.ext K_195
          replace K0 := K0.ext K_195
          refine ⟨.inr ⟨hb_35, trivial⟩, ?_⟩
          refine RT.gst 22 rfl (by kernel_rfl) (wantedF1 rfl rfl rfl rfl) <| St1.call (vals := [.pointer (some ⟨s_9, 0, none⟩), .int .i64 ((o).part), .int .i64 ((o).to)]) en36 rfl (rdoneD hS_163 ((o).part) ((o).to) (by first | decide | assumption | omega)) ?_
          rintro _ w_196 ⟨rfl, K_197⟩
          replace hb_35 := hb_35.ext K_197
          replace hS_155 := hS_155.ext K_197
          replace hS_163 := hS_163.ext K_197
          replace ho_174 := ho_174.ext K_197
          replace ho_184 := ho_184.ext K_197
          replace K0 := K0.ext K_197
          refine ⟨.inr ⟨hb_35, trivial⟩, ?_⟩
          refine RT.gtakeP (v := .bool (false)) 23 rfl (by kernel_rfl) (.inr ⟨hb_35, trivial⟩) (wantedF1 rfl rfl rfl rfl) (fun hg _ => (litF (x_neB Try.underlying4 rfl rfl) (by simp))) ?_
          refine RT.takeP (v := .bool (false)) 24 rfl (by kernel_rfl) (.inr ⟨hb_35, trivial⟩) (fun _ => (x_orF rfl rfl rfl)) ?_
          refine RT.takeP (v := .bool (false)) 25 rfl (by kernel_rfl) (.inr ⟨hb_35, trivial⟩) (fun _ => (x_moveB rfl)) ?_
          refine RT.gtakeP (v := .pointer (some ⟨s_1, 0, none⟩)) 26 rfl (by kernel_rfl) (.inr ⟨hb_35, trivial⟩) (wantedF1 rfl rfl rfl rfl) (fun hg _ => (x_moveP rfl)) ?_
          refine RT.gtakeP (v := .pointer (some ⟨b_32, 1, none⟩)) 27 rfl (by kernel_rfl) (.inr ⟨hb_35, trivial⟩) (wantedF1 rfl rfl rfl rfl) (fun hg _ => (x_fld (o' := 1) Try.underlying57 rfl ty3 rfl rfl rfl)) ?_
          refine RT.gtake (v := .int .i64 ((o).part)) 28 rfl (by kernel_rfl) ⟨hb_35, trivial⟩ (wantedF1 rfl rfl rfl rfl) (fun hg => by rintro _ ⟨hb_35, -⟩; exact (x_ld (v := .int .i64 ((o).part)) ty3 rfl rfl (hb_35.cl.field (i := 1) rfl))) ?_
          refine RT.gtakeP (v := .pointer (some ⟨b_32, 2, none⟩)) 29 rfl (by kernel_rfl) (.inr ⟨hb_35, trivial⟩) (wantedF1 rfl rfl rfl rfl) (fun hg _ => (x_fld (o' := 2) Try.underlying57 rfl ty3 rfl rfl rfl)) ?_
          refine RT.gtake (v := .int .i64 ((o).to)) 30 rfl (by kernel_rfl) ⟨hb_35, trivial⟩ (wantedF1 rfl rfl rfl rfl) (fun hg => by rintro _ ⟨hb_35, -⟩; exact (x_ld (v := .int .i64 ((o).to)) ty3 rfl rfl (hb_35.cl.field (i := 2) rfl))) ?_
          refine RT.gtakeP (v := .pointer (some ⟨s_9, 0, none⟩)) 32 rfl (by kernel_rfl) (.inr ⟨hb_35, trivial⟩) (wantedF1 rfl rfl rfl rfl) (fun hg _ => (x_moveP rfl)) ?_
          refine RT.gtakeP (v := .pointer (some ⟨b_32, 1, none⟩)) 33 rfl (by kernel_rfl) (.inr ⟨hb_35, trivial⟩) (wantedF1 rfl rfl rfl rfl) (fun hg _ => (x_fld (o' := 1) Try.underlying57 rfl ty3 rfl rfl rfl)) ?_
          refine RT.gtake (v := .int .i64 ((o).part)) 34 rfl (by kernel_rfl) ⟨hb_35, trivial⟩ (wantedF1 rfl rfl rfl rfl) (fun hg => by rintro _ ⟨hb_35, -⟩; exact (x_ld (v := .int .i64 ((o).part)) ty3 rfl rfl (hb_35.cl.field (i := 1) rfl))) ?_
          refine RT.gtakeP (v := .pointer (some ⟨b_32, 2, none⟩)) 35 rfl (by kernel_rfl) (.inr ⟨hb_35, trivial⟩) (wantedF1 rfl rfl rfl rfl) (fun hg _ => (x_fld (o' := 2) Try.underlying57 rfl ty3 rfl rfl rfl)) ?_
          refine RT.gtake (v := .int .i64 ((o).to)) 36 rfl (by kernel_rfl) ⟨hb_35, trivial⟩ (wantedF1 rfl rfl rfl rfl) (fun hg => by rintro _ ⟨hb_35, -⟩; exact (x_ld (v := .int .i64 ((o).to)) ty3 rfl rfl (hb_35.cl.field (i := 2) rfl))) ?_
          refine RT.gst 31 rfl (by kernel_rfl) (wantedF1 rfl rfl rfl rfl) <| St1.call (vals := [.pointer (some ⟨s_1, 0, none⟩), .int .i64 ((o).part), .int .i64 ((o).to)]) en17 rfl (leftD hS_155 ((o).part) ((o).to) (by first | decide | assumption | omega)) ?_
          rintro _ w_198 ⟨rfl, K_199⟩
          replace hb_35 := hb_35.ext K_199
          replace hS_155 := hS_155.ext K_199
          replace hS_163 := hS_163.ext K_199
          replace ho_174 := ho_174.ext K_199
          replace ho_184 := ho_184.ext K_199
          replace K0 := K0.ext K_199
          refine ⟨.inr ⟨hb_35, trivial⟩, ?_⟩
          refine RT.gst 37 rfl (by kernel_rfl) (wantedF1 rfl rfl rfl rfl) <| St1.call (vals := [.pointer (some ⟨s_9, 0, none⟩), .int .i64 ((o).part), .int .i64 ((o).to)]) en37 rfl (rleftD hS_163 ((o).part) ((o).to) (by first | decide | assumption | omega)) ?_
          rintro _ w_200 ⟨rfl, K_201⟩
          replace hb_35 := hb_35.ext K_201
          replace hS_155 := hS_155.ext K_201
          replace hS_163 := hS_163.ext K_201
          replace ho_174 := ho_174.ext K_201
          replace ho_184 := ho_184.ext K_201
          replace K0 := K0.ext K_201
          refine ⟨.inr ⟨hb_35, trivial⟩, ?_⟩
          refine RT.gtakeP (v := .bool (false)) 38 rfl (by kernel_rfl) (.inr ⟨hb_35, trivial⟩) (wantedF1 rfl rfl rfl rfl) (fun hg _ => (litF (x_neI rfl rfl) (by simp))) ?_
          refine RT.takeP (v := .bool (false)) 39 rfl (by kernel_rfl) (.inr ⟨hb_35, trivial⟩) (fun _ => (x_orF rfl rfl rfl)) ?_
          refine RT.done (by kernel_rfl) ?_
          refine Run.condF rfl ?_
          refine Run.skip ?_
          refine Run.inBlock ?_
          refine Run.region ?_
          refine RL.val (litI (c := ((i + 1 : Nat) : Int)) (x_add rfl rfl (by omega) (by omega)) rfl) ?_
          refine RL.val (x_moveI rfl) ?_
          refine RL.nil ?_
          refine ih1 (i + 1) _ _ ?_ (by omega)
          refine ⟨F_153, F_161, nw, rq, canL self pl ((o).part) ((o).to), ⟨rfl, rfl, rfl, rfl, rfl, rfl, trivial⟩, K0, hS_155, hS_163, (fun q_ h1 h2 => pr_167 q_ h2 h1), pg_160, pg_168, ?_, ?_, ?_, ?_⟩
          · omega
          · omega
          · omega
          · omega
        · try simp only [br] at hc101
          refine Run.seq ?_
          refine Run.seq ?_
          refine Run.region ?_
          refine RL.val (x_eqI rfl rfl) ?_
          refine RL.val (x_assignB rfl) ?_
          refine RL.nil ?_
          refine Run.cond rfl (fun hc116 => ?_) (fun hc116 => ?_)
          · try simp only [br] at hc116
            refine Run.skip ?_
            refine Run.cond rfl (fun hc116 => ?_) (fun hc116 => ?_)
            · try simp only [br] at hc116
              obtain ⟨hz1, hz2, hz3, hz4⟩ := tick_b (self := self) (now := max nw o.now) (req := rq) (pl := pl)
              refine Run.drawT [] (m := 10) (by kernel_rfl) rfl ?_
              intro w_202 K_203
              replace hO_20 := hO_20.ext K_203
              replace hO_21 := hO_21.ext K_203
              replace hb_35 := hb_35.ext K_203
              replace K0 := K0.ext K_203
              refine ⟨fun w' => Blk w' b_32 [.int .i64 ((o).op), .int .i64 ((o).part), .int .i64 ((o).to), .slice ((o).keys.a) ((o).keys.len) ((o).keys.cap), .int .i64 ((o).now), .int .i64 ((o).kind), .string ((o).key), .int .i64 ((o).req)] 57 ∧ True, ?_⟩
              refine RT.takeP (v := .pointer (some ⟨s_1, 0, none⟩)) 0 rfl (by kernel_rfl) (.inr ⟨hb_35, trivial⟩) (fun _ => (x_moveP rfl)) ?_
              refine RT.takeP (v := .pointer (some ⟨b_32, 4, none⟩)) 1 rfl (by kernel_rfl) (.inr ⟨hb_35, trivial⟩) (fun _ => (x_fld (o' := 4) Try.underlying57 rfl ty3 rfl rfl rfl)) ?_
              refine RT.take (v := .int .i64 ((o).now)) 2 rfl (by kernel_rfl) ⟨hb_35, trivial⟩ (by rintro _ ⟨hb_35, -⟩; exact (x_ld (v := .int .i64 ((o).now)) ty3 rfl rfl (hb_35.cl.field (i := 4) rfl))) ?_
              refine RT.takeP (v := .pointer (some ⟨s_9, 0, none⟩)) 4 rfl (by kernel_rfl) (.inr ⟨hb_35, trivial⟩) (fun _ => (x_moveP rfl)) ?_
              refine RT.takeP (v := .pointer (some ⟨b_32, 4, none⟩)) 5 rfl (by kernel_rfl) (.inr ⟨hb_35, trivial⟩) (fun _ => (x_fld (o' := 4) Try.underlying57 rfl ty3 rfl rfl rfl)) ?_
              refine RT.take (v := .int .i64 ((o).now)) 6 rfl (by kernel_rfl) ⟨hb_35, trivial⟩ (by rintro _ ⟨hb_35, -⟩; exact (x_ld (v := .int .i64 ((o).now)) ty3 rfl rfl (hb_35.cl.field (i := 4) rfl))) ?_
              refine RT.st 3 rfl (by kernel_rfl) rfl <| St1.call (vals := [.pointer (some ⟨s_1, 0, none⟩), .int .i64 ((o).now)]) en14 rfl (tickD hO_20 ((o).now) (by first | decide | assumption | omega) (by first | decide | assumption | omega) (by first | decide | assumption | omega)) ?_
              rintro _ w_207 ⟨a_204, c_205, F_206, rfl, ho_208, hg_209, hS_210, hm_211, hap_212, K_213⟩
              have pr_214 : ∀ q_, own a_204 q_ → ¬ F1 q_ := apartNew hg_209 hO_20.own_lt
              have pr_215 : ∀ q_, own a_204 q_ → ¬ F2 q_ := apartNew hg_209 hO_21.own_lt
              have pr_216 : ¬ own a_204 b_32 := notNew hg_209 hb_35.lt
              have pg_217 : ∀ q_, own a_204 q_ → w.heap.size ≤ q_ := fun q_ h => Nat.le_trans K0.size (hg_209 q_ h)
              clear hg_209
              have pr_218 : ∀ q_, F_206 q_ → ¬ F2 q_ := hm_211.apart pr_22 hO_21.own_lt
              have pr_219 : ¬ F_206 b_32 := hm_211.not pr_38 hb_35.lt
              have pg_220 : ∀ q_, F_206 q_ → w.heap.size ≤ q_ := hm_211.ge pr_23 K0.size
              replace hO_21 := hO_21.keepO K_213 (fun q_ h1 h2 => pr_22 q_ h2 h1)
              replace hb_35 := hb_35.keep K_213 pr_38
              replace K0 := K0.new K_213 pr_23
              clear hm_211
              refine ⟨.inr ⟨hb_35, trivial⟩, ?_⟩
              refine RT.st 7 rfl (by kernel_rfl) rfl <| St1.call (vals := [.pointer (some ⟨s_9, 0, none⟩), .int .i64 ((o).now)]) en32 rfl (rtickD hO_21 ((o).now) (by first | decide | assumption | omega) (by first | decide | assumption | omega) (by first | decide | assumption | omega)) ?_
              rintro _ w_224 ⟨a_221, c_222, F_223, rfl, ho_225, hg_226, hS_227, hm_228, hap_229, K_230⟩
              have pr_231 : ∀ q_, own a_221 q_ → ¬ F2 q_ := apartNew hg_226 hO_21.own_lt
              have pr_232 : ¬ own a_221 b_32 := notNew hg_226 hb_35.lt
              have pr_233 : ∀ q_, own a_221 q_ → ¬ F_206 q_ := apartNew hg_226 hS_210.own_lt
              have pr_234 : ∀ q_, own a_221 q_ → ¬ own a_204 q_ := apartNew hg_226 ho_208.own_lt
              have pg_235 : ∀ q_, own a_221 q_ → w.heap.size ≤ q_ := fun q_ h => Nat.le_trans K0.size (hg_226 q_ h)
              clear hg_226
              have pr_236 : ¬ F_223 b_32 := hm_228.not pr_39 hb_35.lt
              have pr_237 : ∀ q_, F_223 q_ → ¬ F_206 q_ := hm_228.apart (fun q_ h1 h2 => pr_218 q_ h2 h1) hS_210.own_lt
              have pr_238 : ∀ q_, F_223 q_ → ¬ own a_204 q_ := hm_228.apart (fun q_ h1 h2 => pr_215 q_ h2 h1) ho_208.own_lt
              have pg_239 : ∀ q_, F_223 q_ → w.heap.size ≤ q_ := hm_228.ge pr_24 K0.size
              replace hb_35 := hb_35.keep K_230 pr_39
              replace hS_210 := hS_210.keepO K_230 pr_218
              replace ho_208 := ho_208.keepO K_230 pr_215
              replace K0 := K0.new K_230 pr_24
              clear hm_228
              refine ⟨.inr ⟨hb_35, trivial⟩, ?_⟩
              refine RT.st 8 rfl (by kernel_rfl) rfl <| St1.call (vals := [.slice (a_204) (((tickP self (max nw ((o).now)) rq pl).T).length) (c_205), .slice (a_221) (((tickP self (max nw ((o).now)) rq pl).T).length) (c_222)]) en31 rfl (sameMsgs_ _ ((tickP self (max nw ((o).now)) rq pl).T) _ _ _ _ ho_208.sl ho_225.sl (by omega)) ?_
              rintro _ w_240 ⟨rfl, K_241⟩
              replace hb_35 := hb_35.ext K_241
              replace hS_210 := hS_210.ext K_241
              replace ho_208 := ho_208.ext K_241
              replace hS_227 := hS_227.ext K_241
              replace ho_225 := ho_225.ext K_241
              replace K0 := K0.ext K_241
              refine ⟨.inr ⟨hb_35, trivial⟩, ?_⟩
              refine RT.takeP (v := .bool (true)) 9 rfl (by kernel_rfl) (.inr ⟨hb_35, trivial⟩) (fun _ => (x_assignB rfl)) ?_
              refine RT.done (by kernel_rfl) ?_
              refine Run.inBlock ?_
              refine Run.seq ?_
              have hol : (openL self ((tickP self (max nw ((o).now)) rq pl).L)).length ≤ ((tickP self (max nw ((o).now)) rq pl).L).length := by have := openL_len (self := self) (pl := ((tickP self (max nw ((o).now)) rq pl).L)) (i := ((tickP self (max nw ((o).now)) rq pl).L).length); rwa [List.take_length] at this
              refine Run.drawT [] (m := 40) (by kernel_rfl) rfl ?_
              intro w_242 K_243
              replace hb_35 := hb_35.ext K_243
              replace hS_210 := hS_210.ext K_243
              replace ho_208 := ho_208.ext K_243
              replace hS_227 := hS_227.ext K_243
              replace ho_225 := ho_225.ext K_243
              replace K0 := K0.ext K_243
              refine ⟨fun w' => Blk w' b_32 [.int .i64 ((o).op), .int .i64 ((o).part), .int .i64 ((o).to), .slice ((o).keys.a) ((o).keys.len) ((o).keys.cap), .int .i64 ((o).now), .int .i64 ((o).kind), .string ((o).key), .int .i64 ((o).req)] 57 ∧ True, ?_⟩
              refine RT.takeP (v := .bool (true)) 0 rfl (by kernel_rfl) (.inr ⟨hb_35, trivial⟩) (fun _ => (x_moveB rfl)) ?_
              refine RT.takeP (v := .bool (false)) 1 rfl (by kernel_rfl) (.inr ⟨hb_35, trivial⟩) (fun _ => (x_not (b := true) rfl)) ?_
              refine RT.takeP (v := .bool (false)) 2 rfl (by kernel_rfl) (.inr ⟨hb_35, trivial⟩) (fun _ => (x_moveB rfl)) ?_
              refine RT.gtakeP (v := .pointer (some ⟨s_1, 0, none⟩)) 3 rfl (by kernel_rfl) (.inr ⟨hb_35, trivial⟩) (wantedF1 rfl rfl rfl rfl) (fun hg _ => (x_moveP rfl)) ?_
              refine RT.gtakeP (v := .pointer (some ⟨s_9, 0, none⟩)) 5 rfl (by kernel_rfl) (.inr ⟨hb_35, trivial⟩) (wantedF1 rfl rfl rfl rfl) (fun hg _ => (x_moveP rfl)) ?_
              refine RT.gst 4 rfl (by kernel_rfl) (wantedF1 rfl rfl rfl rfl) <| St1.call (vals := [.pointer (some ⟨s_1, 0, none⟩)]) en21 rfl (openD hS_210 (by first | decide | assumption | omega)) ?_
              rintro _ w_246 ⟨a_244, c_245, rfl, ho_247, hg_248, K_249⟩
              have pr_250 : ¬ own a_244 b_32 := notNew hg_248 hb_35.lt
              have pr_251 : ∀ q_, own a_244 q_ → ¬ F_206 q_ := apartNew hg_248 hS_210.own_lt
              have pr_252 : ∀ q_, own a_244 q_ → ¬ own a_204 q_ := apartNew hg_248 ho_208.own_lt
              have pr_253 : ∀ q_, own a_244 q_ → ¬ F_223 q_ := apartNew hg_248 hS_227.own_lt
              have pr_254 : ∀ q_, own a_244 q_ → ¬ own a_221 q_ := apartNew hg_248 ho_225.own_lt
              have pg_255 : ∀ q_, own a_244 q_ → w.heap.size ≤ q_ := fun q_ h => Nat.le_trans K0.size (hg_248 q_ h)
              clear hg_248
              replace hb_35 := hb_35.ext K_249
              replace hS_210 := hS_210.ext K_249
              replace ho_208 := ho_208.ext K_249
              replace hS_227 := hS_227.ext K_249
              replace ho_225 := ho_225.ext K_249
              replace K0 := K0.ext K_249
              refine ⟨.inr ⟨hb_35, trivial⟩, ?_⟩
              refine RT.gst 6 rfl (by kernel_rfl) (wantedF1 rfl rfl rfl rfl) <| St1.call (vals := [.pointer (some ⟨s_9, 0, none⟩)]) en35 rfl (ropenD hS_227 (by first | decide | assumption | omega)) ?_
              rintro _ w_258 ⟨a_256, c_257, rfl, ho_259, hg_260, K_261⟩
              have pr_262 : ¬ own a_256 b_32 := notNew hg_260 hb_35.lt
              have pr_263 : ∀ q_, own a_256 q_ → ¬ F_206 q_ := apartNew hg_260 hS_210.own_lt
              have pr_264 : ∀ q_, own a_256 q_ → ¬ own a_204 q_ := apartNew hg_260 ho_208.own_lt
              have pr_265 : ∀ q_, own a_256 q_ → ¬ F_223 q_ := apartNew hg_260 hS_227.own_lt
              have pr_266 : ∀ q_, own a_256 q_ → ¬ own a_221 q_ := apartNew hg_260 ho_225.own_lt
              have pr_267 : ∀ q_, own a_256 q_ → ¬ own a_244 q_ := apartNew hg_260 ho_247.own_lt
              have pg_268 : ∀ q_, own a_256 q_ → w.heap.size ≤ q_ := fun q_ h => Nat.le_trans K0.size (hg_260 q_ h)
              clear hg_260
              replace hb_35 := hb_35.ext K_261
              replace hS_210 := hS_210.ext K_261
              replace ho_208 := ho_208.ext K_261
              replace hS_227 := hS_227.ext K_261
              replace ho_225 := ho_225.ext K_261
              replace ho_247 := ho_247.ext K_261
              replace K0 := K0.ext K_261
              refine ⟨.inr ⟨hb_35, trivial⟩, ?_⟩
              refine RT.gst 7 rfl (by kernel_rfl) (wantedF1 rfl rfl rfl rfl) <| St1.call (vals := [.slice (a_244) ((openL self ((tickP self (max nw ((o).now)) rq pl).L)).length) (c_245), .slice (a_256) ((openL self ((tickP self (max nw ((o).now)) rq pl).L)).length) (c_257)]) en34 rfl (equalT (equal_move _ (openL self ((tickP self (max nw ((o).now)) rq pl).L)) _ _ _ _ _ ho_247.sl ho_259.sl (by omega))) ?_
              rintro _ w_269 ⟨rfl, K_270⟩
              replace hb_35 := hb_35.ext K_270
              replace hS_210 := hS_210.ext K_270
              replace ho_208 := ho_208.ext K_270
              replace hS_227 := hS_227.ext K_270
              replace ho_225 := ho_225.ext K_270
              replace ho_247 := ho_247.ext K_270
              replace ho_259 := ho_259.ext K_270
              replace K0 := K0.ext K_270
              refine ⟨.inr ⟨hb_35, trivial⟩, ?_⟩
              refine RT.gtakeP (v := .bool (false)) 8 rfl (by kernel_rfl) (.inr ⟨hb_35, trivial⟩) (wantedF1 rfl rfl rfl rfl) (fun hg _ => (x_not (b := true) rfl)) ?_
              refine RT.takeP (v := .bool (false)) 9 rfl (by kernel_rfl) (.inr ⟨hb_35, trivial⟩) (fun _ => (x_orF rfl rfl rfl)) ?_
              refine RT.takeP (v := .bool (false)) 10 rfl (by kernel_rfl) (.inr ⟨hb_35, trivial⟩) (fun _ => (x_moveB rfl)) ?_
              refine RT.gtakeP (v := .pointer (some ⟨s_1, 0, none⟩)) 11 rfl (by kernel_rfl) (.inr ⟨hb_35, trivial⟩) (wantedF1 rfl rfl rfl rfl) (fun hg _ => (x_moveP rfl)) ?_
              refine RT.gtakeP (v := .pointer (some ⟨b_32, 1, none⟩)) 12 rfl (by kernel_rfl) (.inr ⟨hb_35, trivial⟩) (wantedF1 rfl rfl rfl rfl) (fun hg _ => (x_fld (o' := 1) Try.underlying57 rfl ty3 rfl rfl rfl)) ?_
              refine RT.gtake (v := .int .i64 ((o).part)) 13 rfl (by kernel_rfl) ⟨hb_35, trivial⟩ (wantedF1 rfl rfl rfl rfl) (fun hg => by rintro _ ⟨hb_35, -⟩; exact (x_ld (v := .int .i64 ((o).part)) ty3 rfl rfl (hb_35.cl.field (i := 1) rfl))) ?_
              refine RT.gtakeP (v := .pointer (some ⟨b_32, 2, none⟩)) 14 rfl (by kernel_rfl) (.inr ⟨hb_35, trivial⟩) (wantedF1 rfl rfl rfl rfl) (fun hg _ => (x_fld (o' := 2) Try.underlying57 rfl ty3 rfl rfl rfl)) ?_
              refine RT.gtake (v := .int .i64 ((o).to)) 15 rfl (by kernel_rfl) ⟨hb_35, trivial⟩ (wantedF1 rfl rfl rfl rfl) (fun hg => by rintro _ ⟨hb_35, -⟩; exact (x_ld (v := .int .i64 ((o).to)) ty3 rfl rfl (hb_35.cl.field (i := 2) rfl))) ?_
              refine RT.gtakeP (v := .pointer (some ⟨s_9, 0, none⟩)) 17 rfl (by kernel_rfl) (.inr ⟨hb_35, trivial⟩) (wantedF1 rfl rfl rfl rfl) (fun hg _ => (x_moveP rfl)) ?_
              refine RT.gtakeP (v := .pointer (some ⟨b_32, 1, none⟩)) 18 rfl (by kernel_rfl) (.inr ⟨hb_35, trivial⟩) (wantedF1 rfl rfl rfl rfl) (fun hg _ => (x_fld (o' := 1) Try.underlying57 rfl ty3 rfl rfl rfl)) ?_
              refine RT.gtake (v := .int .i64 ((o).part)) 19 rfl (by kernel_rfl) ⟨hb_35, trivial⟩ (wantedF1 rfl rfl rfl rfl) (fun hg => by rintro _ ⟨hb_35, -⟩; exact (x_ld (v := .int .i64 ((o).part)) ty3 rfl rfl (hb_35.cl.field (i := 1) rfl))) ?_
              refine RT.gtakeP (v := .pointer (some ⟨b_32, 2, none⟩)) 20 rfl (by kernel_rfl) (.inr ⟨hb_35, trivial⟩) (wantedF1 rfl rfl rfl rfl) (fun hg _ => (x_fld (o' := 2) Try.underlying57 rfl ty3 rfl rfl rfl)) ?_
              refine RT.gtake (v := .int .i64 ((o).to)) 21 rfl (by kernel_rfl) ⟨hb_35, trivial⟩ (wantedF1 rfl rfl rfl rfl) (fun hg => by rintro _ ⟨hb_35, -⟩; exact (x_ld (v := .int .i64 ((o).to)) ty3 rfl rfl (hb_35.cl.field (i := 2) rfl))) ?_
              refine RT.gst 16 rfl (by kernel_rfl) (wantedF1 rfl rfl rfl rfl) <| St1.call (vals := [.pointer (some ⟨s_1, 0, none⟩), .int .i64 ((o).part), .int .i64 ((o).to)]) en18 rfl (doneD hS_210 ((o).part) ((o).to) (by first | decide | assumption | omega)) ?_
              rintro _ w_271 ⟨rfl, K_272⟩
              replace hb_35 := hb_35.ext K_272
              replace hS_210 := hS_210.ext K_272
              replace ho_208 := ho_208.ext K_272
              replace hS_227 := hS_227.ext K_272
              replace ho_225 := ho_225.ext K_272
              replace ho_247 := ho_247.ext K_272
              replace ho_259 := ho_259.ext K_272
              replace K0 := K0.ext K_272
              refine ⟨.inr ⟨hb_35, trivial⟩, ?_⟩
              refine RT.gst 22 rfl (by kernel_rfl) (wantedF1 rfl rfl rfl rfl) <| St1.call (vals := [.pointer (some ⟨s_9, 0, none⟩), .int .i64 ((o).part), .int .i64 ((o).to)]) en36 rfl (rdoneD hS_227 ((o).part) ((o).to) (by first | decide | assumption | omega)) ?_
              rintro _ w_273 ⟨rfl, K_274⟩
              replace hb_35 := hb_35.ext K_274
              replace hS_210 := hS_210.ext K_274
              replace ho_208 := ho_208.ext K_274
              replace hS_227 := hS_227.ext K_274
              replace ho_225 := ho_225.ext K_274
              replace ho_247 := ho_247.ext K_274
              replace ho_259 := ho_259.ext K_274
              replace K0 := K0.ext K_274
              refine ⟨.inr ⟨hb_35, trivial⟩, ?_⟩
              refine RT.gtakeP (v := .bool (false)) 23 rfl (by kernel_rfl) (.inr ⟨hb_35, trivial⟩) (wantedF1 rfl rfl rfl rfl) (fun hg _ => (litF (x_neB Try.underlying4 rfl rfl) (by simp))) ?_
              refine RT.takeP (v := .bool (false)) 24 rfl (by kernel_rfl) (.inr ⟨hb_35, trivial⟩) (fun _ => (x_orF rfl rfl rfl)) ?_
              refine RT.takeP (v := .bool (false)) 25 rfl (by kernel_rfl) (.inr ⟨hb_35, trivial⟩) (fun _ => (x_moveB rfl)) ?_
              refine RT.gtakeP (v := .pointer (some ⟨s_1, 0, none⟩)) 26 rfl (by kernel_rfl) (.inr ⟨hb_35, trivial⟩) (wantedF1 rfl rfl rfl rfl) (fun hg _ => (x_moveP rfl)) ?_
              refine RT.gtakeP (v := .pointer (some ⟨b_32, 1, none⟩)) 27 rfl (by kernel_rfl) (.inr ⟨hb_35, trivial⟩) (wantedF1 rfl rfl rfl rfl) (fun hg _ => (x_fld (o' := 1) Try.underlying57 rfl ty3 rfl rfl rfl)) ?_
              refine RT.gtake (v := .int .i64 ((o).part)) 28 rfl (by kernel_rfl) ⟨hb_35, trivial⟩ (wantedF1 rfl rfl rfl rfl) (fun hg => by rintro _ ⟨hb_35, -⟩; exact (x_ld (v := .int .i64 ((o).part)) ty3 rfl rfl (hb_35.cl.field (i := 1) rfl))) ?_
              refine RT.gtakeP (v := .pointer (some ⟨b_32, 2, none⟩)) 29 rfl (by kernel_rfl) (.inr ⟨hb_35, trivial⟩) (wantedF1 rfl rfl rfl rfl) (fun hg _ => (x_fld (o' := 2) Try.underlying57 rfl ty3 rfl rfl rfl)) ?_
              refine RT.gtake (v := .int .i64 ((o).to)) 30 rfl (by kernel_rfl) ⟨hb_35, trivial⟩ (wantedF1 rfl rfl rfl rfl) (fun hg => by rintro _ ⟨hb_35, -⟩; exact (x_ld (v := .int .i64 ((o).to)) ty3 rfl rfl (hb_35.cl.field (i := 2) rfl))) ?_
              refine RT.gtakeP (v := .pointer (some ⟨s_9, 0, none⟩)) 32 rfl (by kernel_rfl) (.inr ⟨hb_35, trivial⟩) (wantedF1 rfl rfl rfl rfl) (fun hg _ => (x_moveP rfl)) ?_
              refine RT.gtakeP (v := .pointer (some ⟨b_32, 1, none⟩)) 33 rfl (by kernel_rfl) (.inr ⟨hb_35, trivial⟩) (wantedF1 rfl rfl rfl rfl) (fun hg _ => (x_fld (o' := 1) Try.underlying57 rfl ty3 rfl rfl rfl)) ?_
              refine RT.gtake (v := .int .i64 ((o).part)) 34 rfl (by kernel_rfl) ⟨hb_35, trivial⟩ (wantedF1 rfl rfl rfl rfl) (fun hg => by rintro _ ⟨hb_35, -⟩; exact (x_ld (v := .int .i64 ((o).part)) ty3 rfl rfl (hb_35.cl.field (i := 1) rfl))) ?_
              refine RT.gtakeP (v := .pointer (some ⟨b_32, 2, none⟩)) 35 rfl (by kernel_rfl) (.inr ⟨hb_35, trivial⟩) (wantedF1 rfl rfl rfl rfl) (fun hg _ => (x_fld (o' := 2) Try.underlying57 rfl ty3 rfl rfl rfl)) ?_
              refine RT.gtake (v := .int .i64 ((o).to)) 36 rfl (by kernel_rfl) ⟨hb_35, trivial⟩ (wantedF1 rfl rfl rfl rfl) (fun hg => by rintro _ ⟨hb_35, -⟩; exact (x_ld (v := .int .i64 ((o).to)) ty3 rfl rfl (hb_35.cl.field (i := 2) rfl))) ?_
              refine RT.gst 31 rfl (by kernel_rfl) (wantedF1 rfl rfl rfl rfl) <| St1.call (vals := [.pointer (some ⟨s_1, 0, none⟩), .int .i64 ((o).part), .int .i64 ((o).to)]) en17 rfl (leftD hS_210 ((o).part) ((o).to) (by first | decide | assumption | omega)) ?_
              rintro _ w_275 ⟨rfl, K_276⟩
              replace hb_35 := hb_35.ext K_276
              replace hS_210 := hS_210.ext K_276
              replace ho_208 := ho_208.ext K_276
              replace hS_227 := hS_227.ext K_276
              replace ho_225 := ho_225.ext K_276
              replace ho_247 := ho_247.ext K_276
              replace ho_259 := ho_259.ext K_276
              replace K0 := K0.ext K_276
              refine ⟨.inr ⟨hb_35, trivial⟩, ?_⟩
              refine RT.gst 37 rfl (by kernel_rfl) (wantedF1 rfl rfl rfl rfl) <| St1.call (vals := [.pointer (some ⟨s_9, 0, none⟩), .int .i64 ((o).part), .int .i64 ((o).to)]) en37 rfl (rleftD hS_227 ((o).part) ((o).to) (by first | decide | assumption | omega)) ?_
              rintro _ w_277 ⟨rfl, K_278⟩
              replace hb_35 := hb_35.ext K_278
              replace hS_210 := hS_210.ext K_278
              replace ho_208 := ho_208.ext K_278
              replace hS_227 := hS_227.ext K_278
              replace ho_225 := ho_225.ext K_278
              replace ho_247 := ho_247.ext K_278
              replace ho_259 := ho_259.ext K_278
              replace K0 := K0.ext K_278
              refine ⟨.inr ⟨hb_35, trivial⟩, ?_⟩
              refine RT.gtakeP (v := .bool (false)) 38 rfl (by kernel_rfl) (.inr ⟨hb_35, trivial⟩) (wantedF1 rfl rfl rfl rfl) (fun hg _ => (litF (x_neI rfl rfl) (by simp))) ?_
              refine RT.takeP (v := .bool (false)) 39 rfl (by kernel_rfl) (.inr ⟨hb_35, trivial⟩) (fun _ => (x_orF rfl rfl rfl)) ?_
              refine RT.done (by kernel_rfl) ?_
              refine Run.condF rfl ?_
              refine Run.skip ?_
              refine Run.inBlock ?_
              refine Run.region ?_
              refine RL.val (litI (c := ((i + 1 : Nat) : Int)) (x_add rfl rfl (by omega) (by omega)) rfl) ?_
              refine RL.val (x_moveI rfl) ?_
              refine RL.nil ?_
              refine ih1 (i + 1) _ _ ?_ (by omega)
              refine ⟨F_206, F_223, max nw ((o).now), (tickP self (max nw ((o).now)) rq pl).r, (tickP self (max nw ((o).now)) rq pl).L, ⟨rfl, rfl, rfl, rfl, rfl, rfl, trivial⟩, K0, hS_210, hS_227, (fun q_ h1 h2 => pr_237 q_ h2 h1), pg_220, pg_239, ?_, ?_, ?_, ?_⟩
              · omega
              · omega
              · omega
              · omega
            · try simp only [br] at hc116
              obtain ⟨hz1, hz2, hz3, hz4⟩ := on_b (self := self) (now := max nw o.now) (req := rq) (pl := pl) (m := o.msg self)
              refine Run.drawT [] (m := 16) (by kernel_rfl) rfl ?_
              intro w_279 K_280
              replace hO_20 := hO_20.ext K_280
              replace hO_21 := hO_21.ext K_280
              replace hb_35 := hb_35.ext K_280
              replace K0 := K0.ext K_280
              refine ⟨fun w' => Blk w' b_32 [.int .i64 ((o).op), .int .i64 ((o).part), .int .i64 ((o).to), .slice ((o).keys.a) ((o).keys.len) ((o).keys.cap), .int .i64 ((o).now), .int .i64 ((o).kind), .string ((o).key), .int .i64 ((o).req)] 57 ∧ True, ?_⟩
              refine RT.takeP (v := .pointer (some ⟨s_1, 0, none⟩)) 0 rfl (by kernel_rfl) (.inr ⟨hb_35, trivial⟩) (fun _ => (x_moveP rfl)) ?_
              refine RT.take (v := .agg #[.int .i64 ((o).op), .int .i64 ((o).part), .int .i64 ((o).to), .slice ((o).keys.a) ((o).keys.len) ((o).keys.cap), .int .i64 ((o).now), .int .i64 ((o).kind), .string ((o).key), .int .i64 ((o).req)]) 1 rfl (by kernel_rfl) ⟨hb_35, trivial⟩ (by rintro _ ⟨hb_35, -⟩; exact (x_lds (cs := #[.int .i64 ((o).op), .int .i64 ((o).part), .int .i64 ((o).to), .slice ((o).keys.a) ((o).keys.len) ((o).keys.cap), .int .i64 ((o).now), .int .i64 ((o).kind), .string ((o).key), .int .i64 ((o).req)]) ty57 rfl rfl (hb_35.cl.drop 0 8))) ?_
              refine RT.takeP (v := .int .i64 (self)) 2 rfl (by kernel_rfl) (.inr ⟨hb_35, trivial⟩) (fun _ => (x_moveI rfl)) ?_
              refine RT.takeP (v := .pointer (some ⟨b_32, 4, none⟩)) 4 rfl (by kernel_rfl) (.inr ⟨hb_35, trivial⟩) (fun _ => (x_fld (o' := 4) Try.underlying57 rfl ty3 rfl rfl rfl)) ?_
              refine RT.take (v := .int .i64 ((o).now)) 5 rfl (by kernel_rfl) ⟨hb_35, trivial⟩ (by rintro _ ⟨hb_35, -⟩; exact (x_ld (v := .int .i64 ((o).now)) ty3 rfl rfl (hb_35.cl.field (i := 4) rfl))) ?_
              refine RT.takeP (v := .pointer (some ⟨s_9, 0, none⟩)) 7 rfl (by kernel_rfl) (.inr ⟨hb_35, trivial⟩) (fun _ => (x_moveP rfl)) ?_
              refine RT.take (v := .agg #[.int .i64 ((o).op), .int .i64 ((o).part), .int .i64 ((o).to), .slice ((o).keys.a) ((o).keys.len) ((o).keys.cap), .int .i64 ((o).now), .int .i64 ((o).kind), .string ((o).key), .int .i64 ((o).req)]) 8 rfl (by kernel_rfl) ⟨hb_35, trivial⟩ (by rintro _ ⟨hb_35, -⟩; exact (x_lds (cs := #[.int .i64 ((o).op), .int .i64 ((o).part), .int .i64 ((o).to), .slice ((o).keys.a) ((o).keys.len) ((o).keys.cap), .int .i64 ((o).now), .int .i64 ((o).kind), .string ((o).key), .int .i64 ((o).req)]) ty57 rfl rfl (hb_35.cl.drop 0 8))) ?_
              refine RT.takeP (v := .int .i64 (self)) 9 rfl (by kernel_rfl) (.inr ⟨hb_35, trivial⟩) (fun _ => (x_moveI rfl)) ?_
              refine RT.takeP (v := .pointer (some ⟨b_32, 4, none⟩)) 11 rfl (by kernel_rfl) (.inr ⟨hb_35, trivial⟩) (fun _ => (x_fld (o' := 4) Try.underlying57 rfl ty3 rfl rfl rfl)) ?_
              refine RT.take (v := .int .i64 ((o).now)) 12 rfl (by kernel_rfl) ⟨hb_35, trivial⟩ (by rintro _ ⟨hb_35, -⟩; exact (x_ld (v := .int .i64 ((o).now)) ty3 rfl rfl (hb_35.cl.field (i := 4) rfl))) ?_
              refine RT.st 3 rfl (by kernel_rfl) rfl <| St1.call (vals := [.agg #[.int .i64 ((o).op), .int .i64 ((o).part), .int .i64 ((o).to), .slice ((o).keys.a) ((o).keys.len) ((o).keys.cap), .int .i64 ((o).now), .int .i64 ((o).kind), .string ((o).key), .int .i64 ((o).req)], .int .i64 (self)]) en20 rfl (msg_ o self _) ?_
              rintro _ w_281 ⟨rfl, K_282⟩
              replace hO_20 := hO_20.ext K_282
              replace hO_21 := hO_21.ext K_282
              replace hb_35 := hb_35.ext K_282
              replace K0 := K0.ext K_282
              refine ⟨.inr ⟨hb_35, trivial⟩, ?_⟩
              refine RT.st 6 rfl (by kernel_rfl) rfl <| St1.call (vals := [.pointer (some ⟨s_1, 0, none⟩), .agg #[.int .i64 (((DoC.msg o self)).kind), .int .i64 (((DoC.msg o self)).frm), .int .i64 (((DoC.msg o self)).to), .int .i64 (((DoC.msg o self)).req), .string (((DoC.msg o self)).key), .slice (none) (0) (0), .slice (none) (0) (0), .slice (none) (0) (0), .int .i64 (0), .int .i64 (((DoC.msg o self)).part), .int .i64 (0), .int .i64 (0), .int .i64 (0), .int .i64 (0), .slice (none) (0) (0), .slice (none) (0) (0), .slice (none) (0) (0)], .int .i64 ((o).now)]) en15 rfl (onD hO_20 (DoC.msg o self) ((o).now) (by first | decide | assumption | omega) (by first | decide | assumption | omega) (by first | decide | assumption | omega)) ?_
              rintro _ w_286 ⟨a_283, c_284, F_285, rfl, ho_287, hg_288, hS_289, hm_290, hap_291, K_292⟩
              have pr_293 : ∀ q_, own a_283 q_ → ¬ F1 q_ := apartNew hg_288 hO_20.own_lt
              have pr_294 : ∀ q_, own a_283 q_ → ¬ F2 q_ := apartNew hg_288 hO_21.own_lt
              have pr_295 : ¬ own a_283 b_32 := notNew hg_288 hb_35.lt
              have pg_296 : ∀ q_, own a_283 q_ → w.heap.size ≤ q_ := fun q_ h => Nat.le_trans K0.size (hg_288 q_ h)
              clear hg_288
              have pr_297 : ∀ q_, F_285 q_ → ¬ F2 q_ := hm_290.apart pr_22 hO_21.own_lt
              have pr_298 : ¬ F_285 b_32 := hm_290.not pr_38 hb_35.lt
              have pg_299 : ∀ q_, F_285 q_ → w.heap.size ≤ q_ := hm_290.ge pr_23 K0.size
              replace hO_21 := hO_21.keepO K_292 (fun q_ h1 h2 => pr_22 q_ h2 h1)
              replace hb_35 := hb_35.keep K_292 pr_38
              replace K0 := K0.new K_292 pr_23
              clear hm_290
              refine ⟨.inr ⟨hb_35, trivial⟩, ?_⟩
              refine RT.st 10 rfl (by kernel_rfl) rfl <| St1.call (vals := [.agg #[.int .i64 ((o).op), .int .i64 ((o).part), .int .i64 ((o).to), .slice ((o).keys.a) ((o).keys.len) ((o).keys.cap), .int .i64 ((o).now), .int .i64 ((o).kind), .string ((o).key), .int .i64 ((o).req)], .int .i64 (self)]) en20 rfl (msg_ o self _) ?_
              rintro _ w_300 ⟨rfl, K_301⟩
              replace hO_21 := hO_21.ext K_301
              replace hb_35 := hb_35.ext K_301
              replace hS_289 := hS_289.ext K_301
              replace ho_287 := ho_287.ext K_301
              replace K0 := K0.ext K_301
              refine ⟨.inr ⟨hb_35, trivial⟩, ?_⟩
              refine RT.st 13 rfl (by kernel_rfl) rfl <| St1.call (vals := [.pointer (some ⟨s_9, 0, none⟩), .agg #[.int .i64 (((DoC.msg o self)).kind), .int .i64 (((DoC.msg o self)).frm), .int .i64 (((DoC.msg o self)).to), .int .i64 (((DoC.msg o self)).req), .string (((DoC.msg o self)).key), .slice (none) (0) (0), .slice (none) (0) (0), .slice (none) (0) (0), .int .i64 (0), .int .i64 (((DoC.msg o self)).part), .int .i64 (0), .int .i64 (0), .int .i64 (0), .int .i64 (0), .slice (none) (0) (0), .slice (none) (0) (0), .slice (none) (0) (0)], .int .i64 ((o).now)]) en33 rfl (ronD hO_21 (DoC.msg o self) ((o).now) (by first | decide | assumption | omega) (by first | decide | assumption | omega) (by first | decide | assumption | omega)) ?_
              rintro _ w_305 ⟨a_302, c_303, F_304, rfl, ho_306, hg_307, hS_308, hm_309, hap_310, K_311⟩
              have pr_312 : ∀ q_, own a_302 q_ → ¬ F2 q_ := apartNew hg_307 hO_21.own_lt
              have pr_313 : ¬ own a_302 b_32 := notNew hg_307 hb_35.lt
              have pr_314 : ∀ q_, own a_302 q_ → ¬ F_285 q_ := apartNew hg_307 hS_289.own_lt
              have pr_315 : ∀ q_, own a_302 q_ → ¬ own a_283 q_ := apartNew hg_307 ho_287.own_lt
              have pg_316 : ∀ q_, own a_302 q_ → w.heap.size ≤ q_ := fun q_ h => Nat.le_trans K0.size (hg_307 q_ h)
              clear hg_307
              have pr_317 : ¬ F_304 b_32 := hm_309.not pr_39 hb_35.lt
              have pr_318 : ∀ q_, F_304 q_ → ¬ F_285 q_ := hm_309.apart (fun q_ h1 h2 => pr_297 q_ h2 h1) hS_289.own_lt
              have pr_319 : ∀ q_, F_304 q_ → ¬ own a_283 q_ := hm_309.apart (fun q_ h1 h2 => pr_294 q_ h2 h1) ho_287.own_lt
              have pg_320 : ∀ q_, F_304 q_ → w.heap.size ≤ q_ := hm_309.ge pr_24 K0.size
              replace hb_35 := hb_35.keep K_311 pr_39
              replace hS_289 := hS_289.keepO K_311 pr_297
              replace ho_287 := ho_287.keepO K_311 pr_294
              replace K0 := K0.new K_311 pr_24
              clear hm_309
              refine ⟨.inr ⟨hb_35, trivial⟩, ?_⟩
              refine RT.st 14 rfl (by kernel_rfl) rfl <| St1.call (vals := [.slice (a_283) (((onP self (max nw ((o).now)) rq pl (DoC.msg o self)).T).length) (c_284), .slice (a_302) (((onP self (max nw ((o).now)) rq pl (DoC.msg o self)).T).length) (c_303)]) en31 rfl (sameMsgs_ _ ((onP self (max nw ((o).now)) rq pl (DoC.msg o self)).T) _ _ _ _ ho_287.sl ho_306.sl (by omega)) ?_
              rintro _ w_321 ⟨rfl, K_322⟩
              replace hb_35 := hb_35.ext K_322
              replace hS_289 := hS_289.ext K_322
              replace ho_287 := ho_287.ext K_322
              replace hS_308 := hS_308.ext K_322
              replace ho_306 := ho_306.ext K_322
              replace K0 := K0.ext K_322
              refine ⟨.inr ⟨hb_35, trivial⟩, ?_⟩
              refine RT.takeP (v := .bool (true)) 15 rfl (by kernel_rfl) (.inr ⟨hb_35, trivial⟩) (fun _ => (x_assignB rfl)) ?_
              refine RT.done (by kernel_rfl) ?_
              refine Run.inBlock ?_
              refine Run.seq ?_
              have hol : (openL self ((onP self (max nw ((o).now)) rq pl (DoC.msg o self)).L)).length ≤ ((onP self (max nw ((o).now)) rq pl (DoC.msg o self)).L).length := by have := openL_len (self := self) (pl := ((onP self (max nw ((o).now)) rq pl (DoC.msg o self)).L)) (i := ((onP self (max nw ((o).now)) rq pl (DoC.msg o self)).L).length); rwa [List.take_length] at this
              refine Run.drawT [] (m := 40) (by kernel_rfl) rfl ?_
              intro w_323 K_324
              replace hb_35 := hb_35.ext K_324
              replace hS_289 := hS_289.ext K_324
              replace ho_287 := ho_287.ext K_324
              replace hS_308 := hS_308.ext K_324
              replace ho_306 := ho_306.ext K_324
              replace K0 := K0.ext K_324
              refine ⟨fun w' => Blk w' b_32 [.int .i64 ((o).op), .int .i64 ((o).part), .int .i64 ((o).to), .slice ((o).keys.a) ((o).keys.len) ((o).keys.cap), .int .i64 ((o).now), .int .i64 ((o).kind), .string ((o).key), .int .i64 ((o).req)] 57 ∧ True, ?_⟩
              refine RT.takeP (v := .bool (true)) 0 rfl (by kernel_rfl) (.inr ⟨hb_35, trivial⟩) (fun _ => (x_moveB rfl)) ?_
              refine RT.takeP (v := .bool (false)) 1 rfl (by kernel_rfl) (.inr ⟨hb_35, trivial⟩) (fun _ => (x_not (b := true) rfl)) ?_
              refine RT.takeP (v := .bool (false)) 2 rfl (by kernel_rfl) (.inr ⟨hb_35, trivial⟩) (fun _ => (x_moveB rfl)) ?_
              refine RT.gtakeP (v := .pointer (some ⟨s_1, 0, none⟩)) 3 rfl (by kernel_rfl) (.inr ⟨hb_35, trivial⟩) (wantedF1 rfl rfl rfl rfl) (fun hg _ => (x_moveP rfl)) ?_
              refine RT.gtakeP (v := .pointer (some ⟨s_9, 0, none⟩)) 5 rfl (by kernel_rfl) (.inr ⟨hb_35, trivial⟩) (wantedF1 rfl rfl rfl rfl) (fun hg _ => (x_moveP rfl)) ?_
              refine RT.gst 4 rfl (by kernel_rfl) (wantedF1 rfl rfl rfl rfl) <| St1.call (vals := [.pointer (some ⟨s_1, 0, none⟩)]) en21 rfl (openD hS_289 (by first | decide | assumption | omega)) ?_
              rintro _ w_327 ⟨a_325, c_326, rfl, ho_328, hg_329, K_330⟩
              have pr_331 : ¬ own a_325 b_32 := notNew hg_329 hb_35.lt
              have pr_332 : ∀ q_, own a_325 q_ → ¬ F_285 q_ := apartNew hg_329 hS_289.own_lt
              have pr_333 : ∀ q_, own a_325 q_ → ¬ own a_283 q_ := apartNew hg_329 ho_287.own_lt
              have pr_334 : ∀ q_, own a_325 q_ → ¬ F_304 q_ := apartNew hg_329 hS_308.own_lt
              have pr_335 : ∀ q_, own a_325 q_ → ¬ own a_302 q_ := apartNew hg_329 ho_306.own_lt
              have pg_336 : ∀ q_, own a_325 q_ → w.heap.size ≤ q_ := fun q_ h => Nat.le_trans K0.size (hg_329 q_ h)
              clear hg_329
              replace hb_35 := hb_35.ext K_330
              replace hS_289 := hS_289.ext K_330
              replace ho_287 := ho_287.ext K_330
              replace hS_308 := hS_308.ext K_330
              replace ho_306 := ho_306.ext K_330
              replace K0 := K0.ext K_330
              refine ⟨.inr ⟨hb_35, trivial⟩, ?_⟩
              refine RT.gst 6 rfl (by kernel_rfl) (wantedF1 rfl rfl rfl rfl) <| St1.call (vals := [.pointer (some ⟨s_9, 0, none⟩)]) en35 rfl (ropenD hS_308 (by first | decide | assumption | omega)) ?_
              rintro _ w_339 ⟨a_337, c_338, rfl, ho_340, hg_341, K_342⟩
              have pr_343 : ¬ own a_337 b_32 := notNew hg_341 hb_35.lt
              have pr_344 : ∀ q_, own a_337 q_ → ¬ F_285 q_ := apartNew hg_341 hS_289.own_lt
              have pr_345 : ∀ q_, own a_337 q_ → ¬ own a_283 q_ := apartNew hg_341 ho_287.own_lt
              have pr_346 : ∀ q_, own a_337 q_ → ¬ F_304 q_ := apartNew hg_341 hS_308.own_lt
              have pr_347 : ∀ q_, own a_337 q_ → ¬ own a_302 q_ := apartNew hg_341 ho_306.own_lt
              have pr_348 : ∀ q_, own a_337 q_ → ¬ own a_325 q_ := apartNew hg_341 ho_328.own_lt
              have pg_349 : ∀ q_, own a_337 q_ → w.heap.size ≤ q_ := fun q_ h => Nat.le_trans K0.size (hg_341 q_ h)
              clear hg_341
              replace hb_35 := hb_35.ext K_342
              replace hS_289 := hS_289.ext K_342
              replace ho_287 := ho_287.ext K_342
              replace hS_308 := hS_308.ext K_342
              replace ho_306 := ho_306.ext K_342
              replace ho_328 := ho_328.ext K_342
              replace K0 := K0.ext K_342
              refine ⟨.inr ⟨hb_35, trivial⟩, ?_⟩
              refine RT.gst 7 rfl (by kernel_rfl) (wantedF1 rfl rfl rfl rfl) <| St1.call (vals := [.slice (a_325) ((openL self ((onP self (max nw ((o).now)) rq pl (DoC.msg o self)).L)).length) (c_326), .slice (a_337) ((openL self ((onP self (max nw ((o).now)) rq pl (DoC.msg o self)).L)).length) (c_338)]) en34 rfl (equalT (equal_move _ (openL self ((onP self (max nw ((o).now)) rq pl (DoC.msg o self)).L)) _ _ _ _ _ ho_328.sl ho_340.sl (by omega))) ?_
              rintro _ w_350 ⟨rfl, K_351⟩
              replace hb_35 := hb_35.ext K_351
              replace hS_289 := hS_289.ext K_351
              replace ho_287 := ho_287.ext K_351
              replace hS_308 := hS_308.ext K_351
              replace ho_306 := ho_306.ext K_351
              replace ho_328 := ho_328.ext K_351
              replace ho_340 := ho_340.ext K_351
              replace K0 := K0.ext K_351
              refine ⟨.inr ⟨hb_35, trivial⟩, ?_⟩
              refine RT.gtakeP (v := .bool (false)) 8 rfl (by kernel_rfl) (.inr ⟨hb_35, trivial⟩) (wantedF1 rfl rfl rfl rfl) (fun hg _ => (x_not (b := true) rfl)) ?_
              refine RT.takeP (v := .bool (false)) 9 rfl (by kernel_rfl) (.inr ⟨hb_35, trivial⟩) (fun _ => (x_orF rfl rfl rfl)) ?_
              refine RT.takeP (v := .bool (false)) 10 rfl (by kernel_rfl) (.inr ⟨hb_35, trivial⟩) (fun _ => (x_moveB rfl)) ?_
              refine RT.gtakeP (v := .pointer (some ⟨s_1, 0, none⟩)) 11 rfl (by kernel_rfl) (.inr ⟨hb_35, trivial⟩) (wantedF1 rfl rfl rfl rfl) (fun hg _ => (x_moveP rfl)) ?_
              refine RT.gtakeP (v := .pointer (some ⟨b_32, 1, none⟩)) 12 rfl (by kernel_rfl) (.inr ⟨hb_35, trivial⟩) (wantedF1 rfl rfl rfl rfl) (fun hg _ => (x_fld (o' := 1) Try.underlying57 rfl ty3 rfl rfl rfl)) ?_
              refine RT.gtake (v := .int .i64 ((o).part)) 13 rfl (by kernel_rfl) ⟨hb_35, trivial⟩ (wantedF1 rfl rfl rfl rfl) (fun hg => by rintro _ ⟨hb_35, -⟩; exact (x_ld (v := .int .i64 ((o).part)) ty3 rfl rfl (hb_35.cl.field (i := 1) rfl))) ?_
              refine RT.gtakeP (v := .pointer (some ⟨b_32, 2, none⟩)) 14 rfl (by kernel_rfl) (.inr ⟨hb_35, trivial⟩) (wantedF1 rfl rfl rfl rfl) (fun hg _ => (x_fld (o' := 2) Try.underlying57 rfl ty3 rfl rfl rfl)) ?_
              refine RT.gtake (v := .int .i64 ((o).to)) 15 rfl (by kernel_rfl) ⟨hb_35, trivial⟩ (wantedF1 rfl rfl rfl rfl) (fun hg => by rintro _ ⟨hb_35, -⟩; exact (x_ld (v := .int .i64 ((o).to)) ty3 rfl rfl (hb_35.cl.field (i := 2) rfl))) ?_
              refine RT.gtakeP (v := .pointer (some ⟨s_9, 0, none⟩)) 17 rfl (by kernel_rfl) (.inr ⟨hb_35, trivial⟩) (wantedF1 rfl rfl rfl rfl) (fun hg _ => (x_moveP rfl)) ?_
              refine RT.gtakeP (v := .pointer (some ⟨b_32, 1, none⟩)) 18 rfl (by kernel_rfl) (.inr ⟨hb_35, trivial⟩) (wantedF1 rfl rfl rfl rfl) (fun hg _ => (x_fld (o' := 1) Try.underlying57 rfl ty3 rfl rfl rfl)) ?_
              refine RT.gtake (v := .int .i64 ((o).part)) 19 rfl (by kernel_rfl) ⟨hb_35, trivial⟩ (wantedF1 rfl rfl rfl rfl) (fun hg => by rintro _ ⟨hb_35, -⟩; exact (x_ld (v := .int .i64 ((o).part)) ty3 rfl rfl (hb_35.cl.field (i := 1) rfl))) ?_
              refine RT.gtakeP (v := .pointer (some ⟨b_32, 2, none⟩)) 20 rfl (by kernel_rfl) (.inr ⟨hb_35, trivial⟩) (wantedF1 rfl rfl rfl rfl) (fun hg _ => (x_fld (o' := 2) Try.underlying57 rfl ty3 rfl rfl rfl)) ?_
              refine RT.gtake (v := .int .i64 ((o).to)) 21 rfl (by kernel_rfl) ⟨hb_35, trivial⟩ (wantedF1 rfl rfl rfl rfl) (fun hg => by rintro _ ⟨hb_35, -⟩; exact (x_ld (v := .int .i64 ((o).to)) ty3 rfl rfl (hb_35.cl.field (i := 2) rfl))) ?_
              refine RT.gst 16 rfl (by kernel_rfl) (wantedF1 rfl rfl rfl rfl) <| St1.call (vals := [.pointer (some ⟨s_1, 0, none⟩), .int .i64 ((o).part), .int .i64 ((o).to)]) en18 rfl (doneD hS_289 ((o).part) ((o).to) (by first | decide | assumption | omega)) ?_
              rintro _ w_352 ⟨rfl, K_353⟩
              replace hb_35 := hb_35.ext K_353
              replace hS_289 := hS_289.ext K_353
              replace ho_287 := ho_287.ext K_353
              replace hS_308 := hS_308.ext K_353
              replace ho_306 := ho_306.ext K_353
              replace ho_328 := ho_328.ext K_353
              replace ho_340 := ho_340.ext K_353
              replace K0 := K0.ext K_353
              refine ⟨.inr ⟨hb_35, trivial⟩, ?_⟩
              refine RT.gst 22 rfl (by kernel_rfl) (wantedF1 rfl rfl rfl rfl) <| St1.call (vals := [.pointer (some ⟨s_9, 0, none⟩), .int .i64 ((o).part), .int .i64 ((o).to)]) en36 rfl (rdoneD hS_308 ((o).part) ((o).to) (by first | decide | assumption | omega)) ?_
              rintro _ w_354 ⟨rfl, K_355⟩
              replace hb_35 := hb_35.ext K_355
              replace hS_289 := hS_289.ext K_355
              replace ho_287 := ho_287.ext K_355
              replace hS_308 := hS_308.ext K_355
              replace ho_306 := ho_306.ext K_355
              replace ho_328 := ho_328.ext K_355
              replace ho_340 := ho_340.ext K_355
              replace K0 := K0.ext K_355
              refine ⟨.inr ⟨hb_35, trivial⟩, ?_⟩
              refine RT.gtakeP (v := .bool (false)) 23 rfl (by kernel_rfl) (.inr ⟨hb_35, trivial⟩) (wantedF1 rfl rfl rfl rfl) (fun hg _ => (litF (x_neB Try.underlying4 rfl rfl) (by simp))) ?_
              refine RT.takeP (v := .bool (false)) 24 rfl (by kernel_rfl) (.inr ⟨hb_35, trivial⟩) (fun _ => (x_orF rfl rfl rfl)) ?_
              refine RT.takeP (v := .bool (false)) 25 rfl (by kernel_rfl) (.inr ⟨hb_35, trivial⟩) (fun _ => (x_moveB rfl)) ?_
              refine RT.gtakeP (v := .pointer (some ⟨s_1, 0, none⟩)) 26 rfl (by kernel_rfl) (.inr ⟨hb_35, trivial⟩) (wantedF1 rfl rfl rfl rfl) (fun hg _ => (x_moveP rfl)) ?_
              refine RT.gtakeP (v := .pointer (some ⟨b_32, 1, none⟩)) 27 rfl (by kernel_rfl) (.inr ⟨hb_35, trivial⟩) (wantedF1 rfl rfl rfl rfl) (fun hg _ => (x_fld (o' := 1) Try.underlying57 rfl ty3 rfl rfl rfl)) ?_
              refine RT.gtake (v := .int .i64 ((o).part)) 28 rfl (by kernel_rfl) ⟨hb_35, trivial⟩ (wantedF1 rfl rfl rfl rfl) (fun hg => by rintro _ ⟨hb_35, -⟩; exact (x_ld (v := .int .i64 ((o).part)) ty3 rfl rfl (hb_35.cl.field (i := 1) rfl))) ?_
              refine RT.gtakeP (v := .pointer (some ⟨b_32, 2, none⟩)) 29 rfl (by kernel_rfl) (.inr ⟨hb_35, trivial⟩) (wantedF1 rfl rfl rfl rfl) (fun hg _ => (x_fld (o' := 2) Try.underlying57 rfl ty3 rfl rfl rfl)) ?_
              refine RT.gtake (v := .int .i64 ((o).to)) 30 rfl (by kernel_rfl) ⟨hb_35, trivial⟩ (wantedF1 rfl rfl rfl rfl) (fun hg => by rintro _ ⟨hb_35, -⟩; exact (x_ld (v := .int .i64 ((o).to)) ty3 rfl rfl (hb_35.cl.field (i := 2) rfl))) ?_
              refine RT.gtakeP (v := .pointer (some ⟨s_9, 0, none⟩)) 32 rfl (by kernel_rfl) (.inr ⟨hb_35, trivial⟩) (wantedF1 rfl rfl rfl rfl) (fun hg _ => (x_moveP rfl)) ?_
              refine RT.gtakeP (v := .pointer (some ⟨b_32, 1, none⟩)) 33 rfl (by kernel_rfl) (.inr ⟨hb_35, trivial⟩) (wantedF1 rfl rfl rfl rfl) (fun hg _ => (x_fld (o' := 1) Try.underlying57 rfl ty3 rfl rfl rfl)) ?_
              refine RT.gtake (v := .int .i64 ((o).part)) 34 rfl (by kernel_rfl) ⟨hb_35, trivial⟩ (wantedF1 rfl rfl rfl rfl) (fun hg => by rintro _ ⟨hb_35, -⟩; exact (x_ld (v := .int .i64 ((o).part)) ty3 rfl rfl (hb_35.cl.field (i := 1) rfl))) ?_
              refine RT.gtakeP (v := .pointer (some ⟨b_32, 2, none⟩)) 35 rfl (by kernel_rfl) (.inr ⟨hb_35, trivial⟩) (wantedF1 rfl rfl rfl rfl) (fun hg _ => (x_fld (o' := 2) Try.underlying57 rfl ty3 rfl rfl rfl)) ?_
              refine RT.gtake (v := .int .i64 ((o).to)) 36 rfl (by kernel_rfl) ⟨hb_35, trivial⟩ (wantedF1 rfl rfl rfl rfl) (fun hg => by rintro _ ⟨hb_35, -⟩; exact (x_ld (v := .int .i64 ((o).to)) ty3 rfl rfl (hb_35.cl.field (i := 2) rfl))) ?_
              refine RT.gst 31 rfl (by kernel_rfl) (wantedF1 rfl rfl rfl rfl) <| St1.call (vals := [.pointer (some ⟨s_1, 0, none⟩), .int .i64 ((o).part), .int .i64 ((o).to)]) en17 rfl (leftD hS_289 ((o).part) ((o).to) (by first | decide | assumption | omega)) ?_
              rintro _ w_356 ⟨rfl, K_357⟩
              replace hb_35 := hb_35.ext K_357
              replace hS_289 := hS_289.ext K_357
              replace ho_287 := ho_287.ext K_357
              replace hS_308 := hS_308.ext K_357
              replace ho_306 := ho_306.ext K_357
              replace ho_328 := ho_328.ext K_357
              replace ho_340 := ho_340.ext K_357
              replace K0 := K0.ext K_357
              refine ⟨.inr ⟨hb_35, trivial⟩, ?_⟩
              refine RT.gst 37 rfl (by kernel_rfl) (wantedF1 rfl rfl rfl rfl) <| St1.call (vals := [.pointer (some ⟨s_9, 0, none⟩), .int .i64 ((o).part), .int .i64 ((o).to)]) en37 rfl (rleftD hS_308 ((o).part) ((o).to) (by first | decide | assumption | omega)) ?_
              rintro _ w_358 ⟨rfl, K_359⟩
              replace hb_35 := hb_35.ext K_359
              replace hS_289 := hS_289.ext K_359
              replace ho_287 := ho_287.ext K_359
              replace hS_308 := hS_308.ext K_359
              replace ho_306 := ho_306.ext K_359
              replace ho_328 := ho_328.ext K_359
              replace ho_340 := ho_340.ext K_359
              replace K0 := K0.ext K_359
              refine ⟨.inr ⟨hb_35, trivial⟩, ?_⟩
              refine RT.gtakeP (v := .bool (false)) 38 rfl (by kernel_rfl) (.inr ⟨hb_35, trivial⟩) (wantedF1 rfl rfl rfl rfl) (fun hg _ => (litF (x_neI rfl rfl) (by simp))) ?_
              refine RT.takeP (v := .bool (false)) 39 rfl (by kernel_rfl) (.inr ⟨hb_35, trivial⟩) (fun _ => (x_orF rfl rfl rfl)) ?_
              refine RT.done (by kernel_rfl) ?_
              refine Run.condF rfl ?_
              refine Run.skip ?_
              refine Run.inBlock ?_
              refine Run.region ?_
              refine RL.val (litI (c := ((i + 1 : Nat) : Int)) (x_add rfl rfl (by omega) (by omega)) rfl) ?_
              refine RL.val (x_moveI rfl) ?_
              refine RL.nil ?_
              refine ih1 (i + 1) _ _ ?_ (by omega)
              refine ⟨F_285, F_304, max nw ((o).now), (onP self (max nw ((o).now)) rq pl (DoC.msg o self)).r, (onP self (max nw ((o).now)) rq pl (DoC.msg o self)).L, ⟨rfl, rfl, rfl, rfl, rfl, rfl, trivial⟩, K0, hS_289, hS_308, (fun q_ h1 h2 => pr_318 q_ h2 h1), pg_299, pg_320, ?_, ?_, ?_, ?_⟩
              · omega
              · omega
              · omega
              · omega
          · try simp only [br] at hc116
            refine Run.region ?_
            refine RL.val (x_eqI rfl rfl) ?_
            refine RL.val (x_assignB rfl) ?_
            refine RL.nil ?_
            refine Run.cond rfl (fun hc116 => ?_) (fun hc116 => ?_)
            · try simp only [br] at hc116
              obtain ⟨hz1, hz2, hz3, hz4⟩ := tick_b (self := self) (now := max nw o.now) (req := rq) (pl := pl)
              refine Run.drawT [] (m := 10) (by kernel_rfl) rfl ?_
              intro w_360 K_361
              replace hO_20 := hO_20.ext K_361
              replace hO_21 := hO_21.ext K_361
              replace hb_35 := hb_35.ext K_361
              replace K0 := K0.ext K_361
              refine ⟨fun w' => Blk w' b_32 [.int .i64 ((o).op), .int .i64 ((o).part), .int .i64 ((o).to), .slice ((o).keys.a) ((o).keys.len) ((o).keys.cap), .int .i64 ((o).now), .int .i64 ((o).kind), .string ((o).key), .int .i64 ((o).req)] 57 ∧ True, ?_⟩
              refine RT.takeP (v := .pointer (some ⟨s_1, 0, none⟩)) 0 rfl (by kernel_rfl) (.inr ⟨hb_35, trivial⟩) (fun _ => (x_moveP rfl)) ?_
              refine RT.takeP (v := .pointer (some ⟨b_32, 4, none⟩)) 1 rfl (by kernel_rfl) (.inr ⟨hb_35, trivial⟩) (fun _ => (x_fld (o' := 4) Try.underlying57 rfl ty3 rfl rfl rfl)) ?_
              refine RT.take (v := .int .i64 ((o).now)) 2 rfl (by kernel_rfl) ⟨hb_35, trivial⟩ (by rintro _ ⟨hb_35, -⟩; exact (x_ld (v := .int .i64 ((o).now)) ty3 rfl rfl (hb_35.cl.field (i := 4) rfl))) ?_
              refine RT.takeP (v := .pointer (some ⟨s_9, 0, none⟩)) 4 rfl (by kernel_rfl) (.inr ⟨hb_35, trivial⟩) (fun _ => (x_moveP rfl)) ?_
              refine RT.takeP (v := .pointer (some ⟨b_32, 4, none⟩)) 5 rfl (by kernel_rfl) (.inr ⟨hb_35, trivial⟩) (fun _ => (x_fld (o' := 4) Try.underlying57 rfl ty3 rfl rfl rfl)) ?_
              refine RT.take (v := .int .i64 ((o).now)) 6 rfl (by kernel_rfl) ⟨hb_35, trivial⟩ (by rintro _ ⟨hb_35, -⟩; exact (x_ld (v := .int .i64 ((o).now)) ty3 rfl rfl (hb_35.cl.field (i := 4) rfl))) ?_
              refine RT.st 3 rfl (by kernel_rfl) rfl <| St1.call (vals := [.pointer (some ⟨s_1, 0, none⟩), .int .i64 ((o).now)]) en14 rfl (tickD hO_20 ((o).now) (by first | decide | assumption | omega) (by first | decide | assumption | omega) (by first | decide | assumption | omega)) ?_
              rintro _ w_365 ⟨a_362, c_363, F_364, rfl, ho_366, hg_367, hS_368, hm_369, hap_370, K_371⟩
              have pr_372 : ∀ q_, own a_362 q_ → ¬ F1 q_ := apartNew hg_367 hO_20.own_lt
              have pr_373 : ∀ q_, own a_362 q_ → ¬ F2 q_ := apartNew hg_367 hO_21.own_lt
              have pr_374 : ¬ own a_362 b_32 := notNew hg_367 hb_35.lt
              have pg_375 : ∀ q_, own a_362 q_ → w.heap.size ≤ q_ := fun q_ h => Nat.le_trans K0.size (hg_367 q_ h)
              clear hg_367
              have pr_376 : ∀ q_, F_364 q_ → ¬ F2 q_ := hm_369.apart pr_22 hO_21.own_lt
              have pr_377 : ¬ F_364 b_32 := hm_369.not pr_38 hb_35.lt
              have pg_378 : ∀ q_, F_364 q_ → w.heap.size ≤ q_ := hm_369.ge pr_23 K0.size
              replace hO_21 := hO_21.keepO K_371 (fun q_ h1 h2 => pr_22 q_ h2 h1)
              replace hb_35 := hb_35.keep K_371 pr_38
              replace K0 := K0.new K_371 pr_23
              clear hm_369
              refine ⟨.inr ⟨hb_35, trivial⟩, ?_⟩
              refine RT.st 7 rfl (by kernel_rfl) rfl <| St1.call (vals := [.pointer (some ⟨s_9, 0, none⟩), .int .i64 ((o).now)]) en32 rfl (rtickD hO_21 ((o).now) (by first | decide | assumption | omega) (by first | decide | assumption | omega) (by first | decide | assumption | omega)) ?_
              rintro _ w_382 ⟨a_379, c_380, F_381, rfl, ho_383, hg_384, hS_385, hm_386, hap_387, K_388⟩
              have pr_389 : ∀ q_, own a_379 q_ → ¬ F2 q_ := apartNew hg_384 hO_21.own_lt
              have pr_390 : ¬ own a_379 b_32 := notNew hg_384 hb_35.lt
              have pr_391 : ∀ q_, own a_379 q_ → ¬ F_364 q_ := apartNew hg_384 hS_368.own_lt
              have pr_392 : ∀ q_, own a_379 q_ → ¬ own a_362 q_ := apartNew hg_384 ho_366.own_lt
              have pg_393 : ∀ q_, own a_379 q_ → w.heap.size ≤ q_ := fun q_ h => Nat.le_trans K0.size (hg_384 q_ h)
              clear hg_384
              have pr_394 : ¬ F_381 b_32 := hm_386.not pr_39 hb_35.lt
              have pr_395 : ∀ q_, F_381 q_ → ¬ F_364 q_ := hm_386.apart (fun q_ h1 h2 => pr_376 q_ h2 h1) hS_368.own_lt
              have pr_396 : ∀ q_, F_381 q_ → ¬ own a_362 q_ := hm_386.apart (fun q_ h1 h2 => pr_373 q_ h2 h1) ho_366.own_lt
              have pg_397 : ∀ q_, F_381 q_ → w.heap.size ≤ q_ := hm_386.ge pr_24 K0.size
              replace hb_35 := hb_35.keep K_388 pr_39
              replace hS_368 := hS_368.keepO K_388 pr_376
              replace ho_366 := ho_366.keepO K_388 pr_373
              replace K0 := K0.new K_388 pr_24
              clear hm_386
              refine ⟨.inr ⟨hb_35, trivial⟩, ?_⟩
              refine RT.st 8 rfl (by kernel_rfl) rfl <| St1.call (vals := [.slice (a_362) (((tickP self (max nw ((o).now)) rq pl).T).length) (c_363), .slice (a_379) (((tickP self (max nw ((o).now)) rq pl).T).length) (c_380)]) en31 rfl (sameMsgs_ _ ((tickP self (max nw ((o).now)) rq pl).T) _ _ _ _ ho_366.sl ho_383.sl (by omega)) ?_
              rintro _ w_398 ⟨rfl, K_399⟩
              replace hb_35 := hb_35.ext K_399
              replace hS_368 := hS_368.ext K_399
              replace ho_366 := ho_366.ext K_399
              replace hS_385 := hS_385.ext K_399
              replace ho_383 := ho_383.ext K_399
              replace K0 := K0.ext K_399
              refine ⟨.inr ⟨hb_35, trivial⟩, ?_⟩
              refine RT.takeP (v := .bool (true)) 9 rfl (by kernel_rfl) (.inr ⟨hb_35, trivial⟩) (fun _ => (x_assignB rfl)) ?_
              refine RT.done (by kernel_rfl) ?_
              refine Run.inBlock ?_
              refine Run.seq ?_
              have hol : (openL self ((tickP self (max nw ((o).now)) rq pl).L)).length ≤ ((tickP self (max nw ((o).now)) rq pl).L).length := by have := openL_len (self := self) (pl := ((tickP self (max nw ((o).now)) rq pl).L)) (i := ((tickP self (max nw ((o).now)) rq pl).L).length); rwa [List.take_length] at this
              refine Run.drawT [] (m := 40) (by kernel_rfl) rfl ?_
              intro w_400 K_401
              replace hb_35 := hb_35.ext K_401
              replace hS_368 := hS_368.ext K_401
              replace ho_366 := ho_366.ext K_401
              replace hS_385 := hS_385.ext K_401
              replace ho_383 := ho_383.ext K_401
              replace K0 := K0.ext K_401
              refine ⟨fun w' => Blk w' b_32 [.int .i64 ((o).op), .int .i64 ((o).part), .int .i64 ((o).to), .slice ((o).keys.a) ((o).keys.len) ((o).keys.cap), .int .i64 ((o).now), .int .i64 ((o).kind), .string ((o).key), .int .i64 ((o).req)] 57 ∧ True, ?_⟩
              refine RT.takeP (v := .bool (true)) 0 rfl (by kernel_rfl) (.inr ⟨hb_35, trivial⟩) (fun _ => (x_moveB rfl)) ?_
              refine RT.takeP (v := .bool (false)) 1 rfl (by kernel_rfl) (.inr ⟨hb_35, trivial⟩) (fun _ => (x_not (b := true) rfl)) ?_
              refine RT.takeP (v := .bool (false)) 2 rfl (by kernel_rfl) (.inr ⟨hb_35, trivial⟩) (fun _ => (x_moveB rfl)) ?_
              refine RT.gtakeP (v := .pointer (some ⟨s_1, 0, none⟩)) 3 rfl (by kernel_rfl) (.inr ⟨hb_35, trivial⟩) (wantedF1 rfl rfl rfl rfl) (fun hg _ => (x_moveP rfl)) ?_
              refine RT.gtakeP (v := .pointer (some ⟨s_9, 0, none⟩)) 5 rfl (by kernel_rfl) (.inr ⟨hb_35, trivial⟩) (wantedF1 rfl rfl rfl rfl) (fun hg _ => (x_moveP rfl)) ?_
              refine RT.gst 4 rfl (by kernel_rfl) (wantedF1 rfl rfl rfl rfl) <| St1.call (vals := [.pointer (some ⟨s_1, 0, none⟩)]) en21 rfl (openD hS_368 (by first | decide | assumption | omega)) ?_
              rintro _ w_404 ⟨a_402, c_403, rfl, ho_405, hg_406, K_407⟩
              have pr_408 : ¬ own a_402 b_32 := notNew hg_406 hb_35.lt
              have pr_409 : ∀ q_, own a_402 q_ → ¬ F_364 q_ := apartNew hg_406 hS_368.own_lt
              have pr_410 : ∀ q_, own a_402 q_ → ¬ own a_362 q_ := apartNew hg_406 ho_366.own_lt
              have pr_411 : ∀ q_, own a_402 q_ → ¬ F_381 q_ := apartNew hg_406 hS_385.own_lt
              have pr_412 : ∀ q_, own a_402 q_ → ¬ own a_379 q_ := apartNew hg_406 ho_383.own_lt
              have pg_413 : ∀ q_, own a_402 q_ → w.heap.size ≤ q_ := fun q_ h => Nat.le_trans K0.size (hg_406 q_ h)
              clear hg_406
              replace hb_35 := hb_35.ext K_407
              replace hS_368 := hS_368.ext K_407
              replace ho_366 := ho_366.ext K_407
              replace hS_385 := hS_385.ext K_407
              replace ho_383 := ho_383.ext K_407
              replace K0 := K0.ext K_407
              refine ⟨.inr ⟨hb_35, trivial⟩, ?_⟩
              refine RT.gst 6 rfl (by kernel_rfl) (wantedF1 rfl rfl rfl rfl) <| St1.call (vals := [.pointer (some ⟨s_9, 0, none⟩)]) en35 rfl (ropenD hS_385 (by first | decide | assumption | omega)) ?_
              rintro _ w_416 ⟨a_414, c_415, rfl, ho_417, hg_418, K_419⟩
              have pr_420 : ¬ own a_414 b_32 := notNew hg_418 hb_35.lt
              have pr_421 : ∀ q_, own a_414 q_ → ¬ F_364 q_ := apartNew hg_418 hS_368.own_lt
              have pr_422 : ∀ q_, own a_414 q_ → ¬ own a_362 q_ := apartNew hg_418 ho_366.own_lt
              have pr_423 : ∀ q_, own a_414 q_ → ¬ F_381 q_ := apartNew hg_418 hS_385.own_lt
              have pr_424 : ∀ q_, own a_414 q_ → ¬ own a_379 q_ := apartNew hg_418 ho_383.own_lt
              have pr_425 : ∀ q_, own a_414 q_ → ¬ own a_402 q_ := apartNew hg_418 ho_405.own_lt
              have pg_426 : ∀ q_, own a_414 q_ → w.heap.size ≤ q_ := fun q_ h => Nat.le_trans K0.size (hg_418 q_ h)
              clear hg_418
              replace hb_35 := hb_35.ext K_419
              replace hS_368 := hS_368.ext K_419
              replace ho_366 := ho_366.ext K_419
              replace hS_385 := hS_385.ext K_419
              replace ho_383 := ho_383.ext K_419
              replace ho_405 := ho_405.ext K_419
              replace K0 := K0.ext K_419
              refine ⟨.inr ⟨hb_35, trivial⟩, ?_⟩
              refine RT.gst 7 rfl (by kernel_rfl) (wantedF1 rfl rfl rfl rfl) <| St1.call (vals := [.slice (a_402) ((openL self ((tickP self (max nw ((o).now)) rq pl).L)).length) (c_403), .slice (a_414) ((openL self ((tickP self (max nw ((o).now)) rq pl).L)).length) (c_415)]) en34 rfl (equalT (equal_move _ (openL self ((tickP self (max nw ((o).now)) rq pl).L)) _ _ _ _ _ ho_405.sl ho_417.sl (by omega))) ?_
              rintro _ w_427 ⟨rfl, K_428⟩
              replace hb_35 := hb_35.ext K_428
              replace hS_368 := hS_368.ext K_428
              replace ho_366 := ho_366.ext K_428
              replace hS_385 := hS_385.ext K_428
              replace ho_383 := ho_383.ext K_428
              replace ho_405 := ho_405.ext K_428
              replace ho_417 := ho_417.ext K_428
              replace K0 := K0.ext K_428
              refine ⟨.inr ⟨hb_35, trivial⟩, ?_⟩
              refine RT.gtakeP (v := .bool (false)) 8 rfl (by kernel_rfl) (.inr ⟨hb_35, trivial⟩) (wantedF1 rfl rfl rfl rfl) (fun hg _ => (x_not (b := true) rfl)) ?_
              refine RT.takeP (v := .bool (false)) 9 rfl (by kernel_rfl) (.inr ⟨hb_35, trivial⟩) (fun _ => (x_orF rfl rfl rfl)) ?_
              refine RT.takeP (v := .bool (false)) 10 rfl (by kernel_rfl) (.inr ⟨hb_35, trivial⟩) (fun _ => (x_moveB rfl)) ?_
              refine RT.gtakeP (v := .pointer (some ⟨s_1, 0, none⟩)) 11 rfl (by kernel_rfl) (.inr ⟨hb_35, trivial⟩) (wantedF1 rfl rfl rfl rfl) (fun hg _ => (x_moveP rfl)) ?_
              refine RT.gtakeP (v := .pointer (some ⟨b_32, 1, none⟩)) 12 rfl (by kernel_rfl) (.inr ⟨hb_35, trivial⟩) (wantedF1 rfl rfl rfl rfl) (fun hg _ => (x_fld (o' := 1) Try.underlying57 rfl ty3 rfl rfl rfl)) ?_
              refine RT.gtake (v := .int .i64 ((o).part)) 13 rfl (by kernel_rfl) ⟨hb_35, trivial⟩ (wantedF1 rfl rfl rfl rfl) (fun hg => by rintro _ ⟨hb_35, -⟩; exact (x_ld (v := .int .i64 ((o).part)) ty3 rfl rfl (hb_35.cl.field (i := 1) rfl))) ?_
              refine RT.gtakeP (v := .pointer (some ⟨b_32, 2, none⟩)) 14 rfl (by kernel_rfl) (.inr ⟨hb_35, trivial⟩) (wantedF1 rfl rfl rfl rfl) (fun hg _ => (x_fld (o' := 2) Try.underlying57 rfl ty3 rfl rfl rfl)) ?_
              refine RT.gtake (v := .int .i64 ((o).to)) 15 rfl (by kernel_rfl) ⟨hb_35, trivial⟩ (wantedF1 rfl rfl rfl rfl) (fun hg => by rintro _ ⟨hb_35, -⟩; exact (x_ld (v := .int .i64 ((o).to)) ty3 rfl rfl (hb_35.cl.field (i := 2) rfl))) ?_
              refine RT.gtakeP (v := .pointer (some ⟨s_9, 0, none⟩)) 17 rfl (by kernel_rfl) (.inr ⟨hb_35, trivial⟩) (wantedF1 rfl rfl rfl rfl) (fun hg _ => (x_moveP rfl)) ?_
              refine RT.gtakeP (v := .pointer (some ⟨b_32, 1, none⟩)) 18 rfl (by kernel_rfl) (.inr ⟨hb_35, trivial⟩) (wantedF1 rfl rfl rfl rfl) (fun hg _ => (x_fld (o' := 1) Try.underlying57 rfl ty3 rfl rfl rfl)) ?_
              refine RT.gtake (v := .int .i64 ((o).part)) 19 rfl (by kernel_rfl) ⟨hb_35, trivial⟩ (wantedF1 rfl rfl rfl rfl) (fun hg => by rintro _ ⟨hb_35, -⟩; exact (x_ld (v := .int .i64 ((o).part)) ty3 rfl rfl (hb_35.cl.field (i := 1) rfl))) ?_
              refine RT.gtakeP (v := .pointer (some ⟨b_32, 2, none⟩)) 20 rfl (by kernel_rfl) (.inr ⟨hb_35, trivial⟩) (wantedF1 rfl rfl rfl rfl) (fun hg _ => (x_fld (o' := 2) Try.underlying57 rfl ty3 rfl rfl rfl)) ?_
              refine RT.gtake (v := .int .i64 ((o).to)) 21 rfl (by kernel_rfl) ⟨hb_35, trivial⟩ (wantedF1 rfl rfl rfl rfl) (fun hg => by rintro _ ⟨hb_35, -⟩; exact (x_ld (v := .int .i64 ((o).to)) ty3 rfl rfl (hb_35.cl.field (i := 2) rfl))) ?_
              refine RT.gst 16 rfl (by kernel_rfl) (wantedF1 rfl rfl rfl rfl) <| St1.call (vals := [.pointer (some ⟨s_1, 0, none⟩), .int .i64 ((o).part), .int .i64 ((o).to)]) en18 rfl (doneD hS_368 ((o).part) ((o).to) (by first | decide | assumption | omega)) ?_
              rintro _ w_429 ⟨rfl, K_430⟩
              replace hb_35 := hb_35.ext K_430
              replace hS_368 := hS_368.ext K_430
              replace ho_366 := ho_366.ext K_430
              replace hS_385 := hS_385.ext K_430
              replace ho_383 := ho_383.ext K_430
              replace ho_405 := ho_405.ext K_430
              replace ho_417 := ho_417.ext K_430
              replace K0 := K0.ext K_430
              refine ⟨.inr ⟨hb_35, trivial⟩, ?_⟩
              refine RT.gst 22 rfl (by kernel_rfl) (wantedF1 rfl rfl rfl rfl) <| St1.call (vals := [.pointer (some ⟨s_9, 0, none⟩), .int .i64 ((o).part), .int .i64 ((o).to)]) en36 rfl (rdoneD hS_385 ((o).part) ((o).to) (by first | decide | assumption | omega)) ?_
              rintro _ w_431 ⟨rfl, K_432⟩
              replace hb_35 := hb_35.ext K_432
              replace hS_368 := hS_368.ext K_432
              replace ho_366 := ho_366.ext K_432
              replace hS_385 := hS_385.ext K_432
              replace ho_383 := ho_383.ext K_432
              replace ho_405 := ho_405.ext K_432
              replace ho_417 := ho_417.ext K_432
              replace K0 := K0.ext K_432
              refine ⟨.inr ⟨hb_35, trivial⟩, ?_⟩
              refine RT.gtakeP (v := .bool (false)) 23 rfl (by kernel_rfl) (.inr ⟨hb_35, trivial⟩) (wantedF1 rfl rfl rfl rfl) (fun hg _ => (litF (x_neB Try.underlying4 rfl rfl) (by simp))) ?_
              refine RT.takeP (v := .bool (false)) 24 rfl (by kernel_rfl) (.inr ⟨hb_35, trivial⟩) (fun _ => (x_orF rfl rfl rfl)) ?_
              refine RT.takeP (v := .bool (false)) 25 rfl (by kernel_rfl) (.inr ⟨hb_35, trivial⟩) (fun _ => (x_moveB rfl)) ?_
              refine RT.gtakeP (v := .pointer (some ⟨s_1, 0, none⟩)) 26 rfl (by kernel_rfl) (.inr ⟨hb_35, trivial⟩) (wantedF1 rfl rfl rfl rfl) (fun hg _ => (x_moveP rfl)) ?_
              refine RT.gtakeP (v := .pointer (some ⟨b_32, 1, none⟩)) 27 rfl (by kernel_rfl) (.inr ⟨hb_35, trivial⟩) (wantedF1 rfl rfl rfl rfl) (fun hg _ => (x_fld (o' := 1) Try.underlying57 rfl ty3 rfl rfl rfl)) ?_
              refine RT.gtake (v := .int .i64 ((o).part)) 28 rfl (by kernel_rfl) ⟨hb_35, trivial⟩ (wantedF1 rfl rfl rfl rfl) (fun hg => by rintro _ ⟨hb_35, -⟩; exact (x_ld (v := .int .i64 ((o).part)) ty3 rfl rfl (hb_35.cl.field (i := 1) rfl))) ?_
              refine RT.gtakeP (v := .pointer (some ⟨b_32, 2, none⟩)) 29 rfl (by kernel_rfl) (.inr ⟨hb_35, trivial⟩) (wantedF1 rfl rfl rfl rfl) (fun hg _ => (x_fld (o' := 2) Try.underlying57 rfl ty3 rfl rfl rfl)) ?_
              refine RT.gtake (v := .int .i64 ((o).to)) 30 rfl (by kernel_rfl) ⟨hb_35, trivial⟩ (wantedF1 rfl rfl rfl rfl) (fun hg => by rintro _ ⟨hb_35, -⟩; exact (x_ld (v := .int .i64 ((o).to)) ty3 rfl rfl (hb_35.cl.field (i := 2) rfl))) ?_
              refine RT.gtakeP (v := .pointer (some ⟨s_9, 0, none⟩)) 32 rfl (by kernel_rfl) (.inr ⟨hb_35, trivial⟩) (wantedF1 rfl rfl rfl rfl) (fun hg _ => (x_moveP rfl)) ?_
              refine RT.gtakeP (v := .pointer (some ⟨b_32, 1, none⟩)) 33 rfl (by kernel_rfl) (.inr ⟨hb_35, trivial⟩) (wantedF1 rfl rfl rfl rfl) (fun hg _ => (x_fld (o' := 1) Try.underlying57 rfl ty3 rfl rfl rfl)) ?_
              refine RT.gtake (v := .int .i64 ((o).part)) 34 rfl (by kernel_rfl) ⟨hb_35, trivial⟩ (wantedF1 rfl rfl rfl rfl) (fun hg => by rintro _ ⟨hb_35, -⟩; exact (x_ld (v := .int .i64 ((o).part)) ty3 rfl rfl (hb_35.cl.field (i := 1) rfl))) ?_
              refine RT.gtakeP (v := .pointer (some ⟨b_32, 2, none⟩)) 35 rfl (by kernel_rfl) (.inr ⟨hb_35, trivial⟩) (wantedF1 rfl rfl rfl rfl) (fun hg _ => (x_fld (o' := 2) Try.underlying57 rfl ty3 rfl rfl rfl)) ?_
              refine RT.gtake (v := .int .i64 ((o).to)) 36 rfl (by kernel_rfl) ⟨hb_35, trivial⟩ (wantedF1 rfl rfl rfl rfl) (fun hg => by rintro _ ⟨hb_35, -⟩; exact (x_ld (v := .int .i64 ((o).to)) ty3 rfl rfl (hb_35.cl.field (i := 2) rfl))) ?_
              refine RT.gst 31 rfl (by kernel_rfl) (wantedF1 rfl rfl rfl rfl) <| St1.call (vals := [.pointer (some ⟨s_1, 0, none⟩), .int .i64 ((o).part), .int .i64 ((o).to)]) en17 rfl (leftD hS_368 ((o).part) ((o).to) (by first | decide | assumption | omega)) ?_
              rintro _ w_433 ⟨rfl, K_434⟩
              replace hb_35 := hb_35.ext K_434
              replace hS_368 := hS_368.ext K_434
              replace ho_366 := ho_366.ext K_434
              replace hS_385 := hS_385.ext K_434
              replace ho_383 := ho_383.ext K_434
              replace ho_405 := ho_405.ext K_434
              replace ho_417 := ho_417.ext K_434
              replace K0 := K0.ext K_434
              refine ⟨.inr ⟨hb_35, trivial⟩, ?_⟩
              refine RT.gst 37 rfl (by kernel_rfl) (wantedF1 rfl rfl rfl rfl) <| St1.call (vals := [.pointer (some ⟨s_9, 0, none⟩), .int .i64 ((o).part), .int .i64 ((o).to)]) en37 rfl (rleftD hS_385 ((o).part) ((o).to) (by first | decide | assumption | omega)) ?_
              rintro _ w_435 ⟨rfl, K_436⟩
              replace hb_35 := hb_35.ext K_436
              replace hS_368 := hS_368.ext K_436
              replace ho_366 := ho_366.ext K_436
              replace hS_385 := hS_385.ext K_436
              replace ho_383 := ho_383.ext K_436
              replace ho_405 := ho_405.ext K_436
              replace ho_417 := ho_417.ext K_436
              replace K0 := K0.ext K_436
              refine ⟨.inr ⟨hb_35, trivial⟩, ?_⟩
              refine RT.gtakeP (v := .bool (false)) 38 rfl (by kernel_rfl) (.inr ⟨hb_35, trivial⟩) (wantedF1 rfl rfl rfl rfl) (fun hg _ => (litF (x_neI rfl rfl) (by simp))) ?_
              refine RT.takeP (v := .bool (false)) 39 rfl (by kernel_rfl) (.inr ⟨hb_35, trivial⟩) (fun _ => (x_orF rfl rfl rfl)) ?_
              refine RT.done (by kernel_rfl) ?_
              refine Run.condF rfl ?_
              refine Run.skip ?_
              refine Run.inBlock ?_
              refine Run.region ?_
              refine RL.val (litI (c := ((i + 1 : Nat) : Int)) (x_add rfl rfl (by omega) (by omega)) rfl) ?_
              refine RL.val (x_moveI rfl) ?_
              refine RL.nil ?_
              refine ih1 (i + 1) _ _ ?_ (by omega)
              refine ⟨F_364, F_381, max nw ((o).now), (tickP self (max nw ((o).now)) rq pl).r, (tickP self (max nw ((o).now)) rq pl).L, ⟨rfl, rfl, rfl, rfl, rfl, rfl, trivial⟩, K0, hS_368, hS_385, (fun q_ h1 h2 => pr_395 q_ h2 h1), pg_378, pg_397, ?_, ?_, ?_, ?_⟩
              · omega
              · omega
              · omega
              · omega
            · try simp only [br] at hc116
              obtain ⟨hz1, hz2, hz3, hz4⟩ := on_b (self := self) (now := max nw o.now) (req := rq) (pl := pl) (m := o.msg self)
              refine Run.drawT [] (m := 16) (by kernel_rfl) rfl ?_
              intro w_437 K_438
              replace hO_20 := hO_20.ext K_438
              replace hO_21 := hO_21.ext K_438
              replace hb_35 := hb_35.ext K_438
              replace K0 := K0.ext K_438
              refine ⟨fun w' => Blk w' b_32 [.int .i64 ((o).op), .int .i64 ((o).part), .int .i64 ((o).to), .slice ((o).keys.a) ((o).keys.len) ((o).keys.cap), .int .i64 ((o).now), .int .i64 ((o).kind), .string ((o).key), .int .i64 ((o).req)] 57 ∧ True, ?_⟩
              refine RT.takeP (v := .pointer (some ⟨s_1, 0, none⟩)) 0 rfl (by kernel_rfl) (.inr ⟨hb_35, trivial⟩) (fun _ => (x_moveP rfl)) ?_
              refine RT.take (v := .agg #[.int .i64 ((o).op), .int .i64 ((o).part), .int .i64 ((o).to), .slice ((o).keys.a) ((o).keys.len) ((o).keys.cap), .int .i64 ((o).now), .int .i64 ((o).kind), .string ((o).key), .int .i64 ((o).req)]) 1 rfl (by kernel_rfl) ⟨hb_35, trivial⟩ (by rintro _ ⟨hb_35, -⟩; exact (x_lds (cs := #[.int .i64 ((o).op), .int .i64 ((o).part), .int .i64 ((o).to), .slice ((o).keys.a) ((o).keys.len) ((o).keys.cap), .int .i64 ((o).now), .int .i64 ((o).kind), .string ((o).key), .int .i64 ((o).req)]) ty57 rfl rfl (hb_35.cl.drop 0 8))) ?_
              refine RT.takeP (v := .int .i64 (self)) 2 rfl (by kernel_rfl) (.inr ⟨hb_35, trivial⟩) (fun _ => (x_moveI rfl)) ?_
              refine RT.takeP (v := .pointer (some ⟨b_32, 4, none⟩)) 4 rfl (by kernel_rfl) (.inr ⟨hb_35, trivial⟩) (fun _ => (x_fld (o' := 4) Try.underlying57 rfl ty3 rfl rfl rfl)) ?_
              refine RT.take (v := .int .i64 ((o).now)) 5 rfl (by kernel_rfl) ⟨hb_35, trivial⟩ (by rintro _ ⟨hb_35, -⟩; exact (x_ld (v := .int .i64 ((o).now)) ty3 rfl rfl (hb_35.cl.field (i := 4) rfl))) ?_
              refine RT.takeP (v := .pointer (some ⟨s_9, 0, none⟩)) 7 rfl (by kernel_rfl) (.inr ⟨hb_35, trivial⟩) (fun _ => (x_moveP rfl)) ?_
              refine RT.take (v := .agg #[.int .i64 ((o).op), .int .i64 ((o).part), .int .i64 ((o).to), .slice ((o).keys.a) ((o).keys.len) ((o).keys.cap), .int .i64 ((o).now), .int .i64 ((o).kind), .string ((o).key), .int .i64 ((o).req)]) 8 rfl (by kernel_rfl) ⟨hb_35, trivial⟩ (by rintro _ ⟨hb_35, -⟩; exact (x_lds (cs := #[.int .i64 ((o).op), .int .i64 ((o).part), .int .i64 ((o).to), .slice ((o).keys.a) ((o).keys.len) ((o).keys.cap), .int .i64 ((o).now), .int .i64 ((o).kind), .string ((o).key), .int .i64 ((o).req)]) ty57 rfl rfl (hb_35.cl.drop 0 8))) ?_
              refine RT.takeP (v := .int .i64 (self)) 9 rfl (by kernel_rfl) (.inr ⟨hb_35, trivial⟩) (fun _ => (x_moveI rfl)) ?_
              refine RT.takeP (v := .pointer (some ⟨b_32, 4, none⟩)) 11 rfl (by kernel_rfl) (.inr ⟨hb_35, trivial⟩) (fun _ => (x_fld (o' := 4) Try.underlying57 rfl ty3 rfl rfl rfl)) ?_
              refine RT.take (v := .int .i64 ((o).now)) 12 rfl (by kernel_rfl) ⟨hb_35, trivial⟩ (by rintro _ ⟨hb_35, -⟩; exact (x_ld (v := .int .i64 ((o).now)) ty3 rfl rfl (hb_35.cl.field (i := 4) rfl))) ?_
              refine RT.st 3 rfl (by kernel_rfl) rfl <| St1.call (vals := [.agg #[.int .i64 ((o).op), .int .i64 ((o).part), .int .i64 ((o).to), .slice ((o).keys.a) ((o).keys.len) ((o).keys.cap), .int .i64 ((o).now), .int .i64 ((o).kind), .string ((o).key), .int .i64 ((o).req)], .int .i64 (self)]) en20 rfl (msg_ o self _) ?_
              rintro _ w_439 ⟨rfl, K_440⟩
              replace hO_20 := hO_20.ext K_440
              replace hO_21 := hO_21.ext K_440
              replace hb_35 := hb_35.ext K_440
              replace K0 := K0.ext K_440
              refine ⟨.inr ⟨hb_35, trivial⟩, ?_⟩
              refine RT.st 6 rfl (by kernel_rfl) rfl <| St1.call (vals := [.pointer (some ⟨s_1, 0, none⟩), .agg #[.int .i64 (((DoC.msg o self)).kind), .int .i64 (((DoC.msg o self)).frm), .int .i64 (((DoC.msg o self)).to), .int .i64 (((DoC.msg o self)).req), .string (((DoC.msg o self)).key), .slice (none) (0) (0), .slice (none) (0) (0), .slice (none) (0) (0), .int .i64 (0), .int .i64 (((DoC.msg o self)).part), .int .i64 (0), .int .i64 (0), .int .i64 (0), .int .i64 (0), .slice (none) (0) (0), .slice (none) (0) (0), .slice (none) (0) (0)], .int .i64 ((o).now)]) en15 rfl (onD hO_20 (DoC.msg o self) ((o).now) (by first | decide | assumption | omega) (by first | decide | assumption | omega) (by first | decide | assumption | omega)) ?_
              rintro _ w_444 ⟨a_441, c_442, F_443, rfl, ho_445, hg_446, hS_447, hm_448, hap_449, K_450⟩
              have pr_451 : ∀ q_, own a_441 q_ → ¬ F1 q_ := apartNew hg_446 hO_20.own_lt
              have pr_452 : ∀ q_, own a_441 q_ → ¬ F2 q_ := apartNew hg_446 hO_21.own_lt
              have pr_453 : ¬ own a_441 b_32 := notNew hg_446 hb_35.lt
              have pg_454 : ∀ q_, own a_441 q_ → w.heap.size ≤ q_ := fun q_ h => Nat.le_trans K0.size (hg_446 q_ h)
              clear hg_446
              have pr_455 : ∀ q_, F_443 q_ → ¬ F2 q_ := hm_448.apart pr_22 hO_21.own_lt
              have pr_456 : ¬ F_443 b_32 := hm_448.not pr_38 hb_35.lt
              have pg_457 : ∀ q_, F_443 q_ → w.heap.size ≤ q_ := hm_448.ge pr_23 K0.size
              replace hO_21 := hO_21.keepO K_450 (fun q_ h1 h2 => pr_22 q_ h2 h1)
              replace hb_35 := hb_35.keep K_450 pr_38
              replace K0 := K0.new K_450 pr_23
              clear hm_448
              refine ⟨.inr ⟨hb_35, trivial⟩, ?_⟩
              refine RT.st 10 rfl (by kernel_rfl) rfl <| St1.call (vals := [.agg #[.int .i64 ((o).op), .int .i64 ((o).part), .int .i64 ((o).to), .slice ((o).keys.a) ((o).keys.len) ((o).keys.cap), .int .i64 ((o).now), .int .i64 ((o).kind), .string ((o).key), .int .i64 ((o).req)], .int .i64 (self)]) en20 rfl (msg_ o self _) ?_
              rintro _ w_458 ⟨rfl, K_459⟩
              replace hO_21 := hO_21.ext K_459
              replace hb_35 := hb_35.ext K_459
              replace hS_447 := hS_447.ext K_459
              replace ho_445 := ho_445.ext K_459
              replace K0 := K0.ext K_459
              refine ⟨.inr ⟨hb_35, trivial⟩, ?_⟩
              refine RT.st 13 rfl (by kernel_rfl) rfl <| St1.call (vals := [.pointer (some ⟨s_9, 0, none⟩), .agg #[.int .i64 (((DoC.msg o self)).kind), .int .i64 (((DoC.msg o self)).frm), .int .i64 (((DoC.msg o self)).to), .int .i64 (((DoC.msg o self)).req), .string (((DoC.msg o self)).key), .slice (none) (0) (0), .slice (none) (0) (0), .slice (none) (0) (0), .int .i64 (0), .int .i64 (((DoC.msg o self)).part), .int .i64 (0), .int .i64 (0), .int .i64 (0), .int .i64 (0), .slice (none) (0) (0), .slice (none) (0) (0), .slice (none) (0) (0)], .int .i64 ((o).now)]) en33 rfl (ronD hO_21 (DoC.msg o self) ((o).now) (by first | decide | assumption | omega) (by first | decide | assumption | omega) (by first | decide | assumption | omega)) ?_
              rintro _ w_463 ⟨a_460, c_461, F_462, rfl, ho_464, hg_465, hS_466, hm_467, hap_468, K_469⟩
              have pr_470 : ∀ q_, own a_460 q_ → ¬ F2 q_ := apartNew hg_465 hO_21.own_lt
              have pr_471 : ¬ own a_460 b_32 := notNew hg_465 hb_35.lt
              have pr_472 : ∀ q_, own a_460 q_ → ¬ F_443 q_ := apartNew hg_465 hS_447.own_lt
              have pr_473 : ∀ q_, own a_460 q_ → ¬ own a_441 q_ := apartNew hg_465 ho_445.own_lt
              have pg_474 : ∀ q_, own a_460 q_ → w.heap.size ≤ q_ := fun q_ h => Nat.le_trans K0.size (hg_465 q_ h)
              clear hg_465
              have pr_475 : ¬ F_462 b_32 := hm_467.not pr_39 hb_35.lt
              have pr_476 : ∀ q_, F_462 q_ → ¬ F_443 q_ := hm_467.apart (fun q_ h1 h2 => pr_455 q_ h2 h1) hS_447.own_lt
              have pr_477 : ∀ q_, F_462 q_ → ¬ own a_441 q_ := hm_467.apart (fun q_ h1 h2 => pr_452 q_ h2 h1) ho_445.own_lt
              have pg_478 : ∀ q_, F_462 q_ → w.heap.size ≤ q_ := hm_467.ge pr_24 K0.size
              replace hb_35 := hb_35.keep K_469 pr_39
              replace hS_447 := hS_447.keepO K_469 pr_455
              replace ho_445 := ho_445.keepO K_469 pr_452
              replace K0 := K0.new K_469 pr_24
              clear hm_467
              refine ⟨.inr ⟨hb_35, trivial⟩, ?_⟩
              refine RT.st 14 rfl (by kernel_rfl) rfl <| St1.call (vals := [.slice (a_441) (((onP self (max nw ((o).now)) rq pl (DoC.msg o self)).T).length) (c_442), .slice (a_460) (((onP self (max nw ((o).now)) rq pl (DoC.msg o self)).T).length) (c_461)]) en31 rfl (sameMsgs_ _ ((onP self (max nw ((o).now)) rq pl (DoC.msg o self)).T) _ _ _ _ ho_445.sl ho_464.sl (by omega)) ?_
              rintro _ w_479 ⟨rfl, K_480⟩
              replace hb_35 := hb_35.ext K_480
              replace hS_447 := hS_447.ext K_480
              replace ho_445 := ho_445.ext K_480
              replace hS_466 := hS_466.ext K_480
              replace ho_464 := ho_464.ext K_480
              replace K0 := K0.ext K_480
              refine ⟨.inr ⟨hb_35, trivial⟩, ?_⟩
              refine RT.takeP (v := .bool (true)) 15 rfl (by kernel_rfl) (.inr ⟨hb_35, trivial⟩) (fun _ => (x_assignB rfl)) ?_
              refine RT.done (by kernel_rfl) ?_
              refine Run.inBlock ?_
              refine Run.seq ?_
              have hol : (openL self ((onP self (max nw ((o).now)) rq pl (DoC.msg o self)).L)).length ≤ ((onP self (max nw ((o).now)) rq pl (DoC.msg o self)).L).length := by have := openL_len (self := self) (pl := ((onP self (max nw ((o).now)) rq pl (DoC.msg o self)).L)) (i := ((onP self (max nw ((o).now)) rq pl (DoC.msg o self)).L).length); rwa [List.take_length] at this
              refine Run.drawT [] (m := 40) (by kernel_rfl) rfl ?_
              intro w_481 K_482
              replace hb_35 := hb_35.ext K_482
              replace hS_447 := hS_447.ext K_482
              replace ho_445 := ho_445.ext K_482
              replace hS_466 := hS_466.ext K_482
              replace ho_464 := ho_464.ext K_482
              replace K0 := K0.ext K_482
              refine ⟨fun w' => Blk w' b_32 [.int .i64 ((o).op), .int .i64 ((o).part), .int .i64 ((o).to), .slice ((o).keys.a) ((o).keys.len) ((o).keys.cap), .int .i64 ((o).now), .int .i64 ((o).kind), .string ((o).key), .int .i64 ((o).req)] 57 ∧ True, ?_⟩
              refine RT.takeP (v := .bool (true)) 0 rfl (by kernel_rfl) (.inr ⟨hb_35, trivial⟩) (fun _ => (x_moveB rfl)) ?_
              refine RT.takeP (v := .bool (false)) 1 rfl (by kernel_rfl) (.inr ⟨hb_35, trivial⟩) (fun _ => (x_not (b := true) rfl)) ?_
              refine RT.takeP (v := .bool (false)) 2 rfl (by kernel_rfl) (.inr ⟨hb_35, trivial⟩) (fun _ => (x_moveB rfl)) ?_
              refine RT.gtakeP (v := .pointer (some ⟨s_1, 0, none⟩)) 3 rfl (by kernel_rfl) (.inr ⟨hb_35, trivial⟩) (wantedF1 rfl rfl rfl rfl) (fun hg _ => (x_moveP rfl)) ?_
              refine RT.gtakeP (v := .pointer (some ⟨s_9, 0, none⟩)) 5 rfl (by kernel_rfl) (.inr ⟨hb_35, trivial⟩) (wantedF1 rfl rfl rfl rfl) (fun hg _ => (x_moveP rfl)) ?_
              refine RT.gst 4 rfl (by kernel_rfl) (wantedF1 rfl rfl rfl rfl) <| St1.call (vals := [.pointer (some ⟨s_1, 0, none⟩)]) en21 rfl (openD hS_447 (by first | decide | assumption | omega)) ?_
              rintro _ w_485 ⟨a_483, c_484, rfl, ho_486, hg_487, K_488⟩
              have pr_489 : ¬ own a_483 b_32 := notNew hg_487 hb_35.lt
              have pr_490 : ∀ q_, own a_483 q_ → ¬ F_443 q_ := apartNew hg_487 hS_447.own_lt
              have pr_491 : ∀ q_, own a_483 q_ → ¬ own a_441 q_ := apartNew hg_487 ho_445.own_lt
              have pr_492 : ∀ q_, own a_483 q_ → ¬ F_462 q_ := apartNew hg_487 hS_466.own_lt
              have pr_493 : ∀ q_, own a_483 q_ → ¬ own a_460 q_ := apartNew hg_487 ho_464.own_lt
              have pg_494 : ∀ q_, own a_483 q_ → w.heap.size ≤ q_ := fun q_ h => Nat.le_trans K0.size (hg_487 q_ h)
              clear hg_487
              replace hb_35 := hb_35.ext K_488
              replace hS_447 := hS_447.ext K_488
              replace ho_445 := ho_445.ext K_488
              replace hS_466 := hS_466.ext K_488
              replace ho_464 := ho_464.ext K_488
              replace K0 := K0.ext K_488
              refine ⟨.inr ⟨hb_35, trivial⟩, ?_⟩
              refine RT.gst 6 rfl (by kernel_rfl) (wantedF1 rfl rfl rfl rfl) <| St1.call (vals := [.pointer (some ⟨s_9, 0, none⟩)]) en35 rfl (ropenD hS_466 (by first | decide | assumption | omega)) ?_
              rintro _ w_497 ⟨a_495, c_496, rfl, ho_498, hg_499, K_500⟩
              have pr_501 : ¬ own a_495 b_32 := notNew hg_499 hb_35.lt
              have pr_502 : ∀ q_, own a_495 q_ → ¬ F_443 q_ := apartNew hg_499 hS_447.own_lt
              have pr_503 : ∀ q_, own a_495 q_ → ¬ own a_441 q_ := apartNew hg_499 ho_445.own_lt
              have pr_504 : ∀ q_, own a_495 q_ → ¬ F_462 q_ := apartNew hg_499 hS_466.own_lt
              have pr_505 : ∀ q_, own a_495 q_ → ¬ own a_460 q_ := apartNew hg_499 ho_464.own_lt
              have pr_506 : ∀ q_, own a_495 q_ → ¬ own a_483 q_ := apartNew hg_499 ho_486.own_lt
              have pg_507 : ∀ q_, own a_495 q_ → w.heap.size ≤ q_ := fun q_ h => Nat.le_trans K0.size (hg_499 q_ h)
              clear hg_499
              replace hb_35 := hb_35.ext K_500
              replace hS_447 := hS_447.ext K_500
              replace ho_445 := ho_445.ext K_500
              replace hS_466 := hS_466.ext K_500
              replace ho_464 := ho_464.ext K_500
              replace ho_486 := ho_486.ext K_500
              replace K0 := K0.ext K_500
              refine ⟨.inr ⟨hb_35, trivial⟩, ?_⟩
              refine RT.gst 7 rfl (by kernel_rfl) (wantedF1 rfl rfl rfl rfl) <| St1.call (vals := [.slice (a_483) ((openL self ((onP self (max nw ((o).now)) rq pl (DoC.msg o self)).L)).length) (c_484), .slice (a_495) ((openL self ((onP self (max nw ((o).now)) rq pl (DoC.msg o self)).L)).length) (c_496)]) en34 rfl (equalT (equal_move _ (openL self ((onP self (max nw ((o).now)) rq pl (DoC.msg o self)).L)) _ _ _ _ _ ho_486.sl ho_498.sl (by omega))) ?_
              rintro _ w_508 ⟨rfl, K_509⟩
              replace hb_35 := hb_35.ext K_509
              replace hS_447 := hS_447.ext K_509
              replace ho_445 := ho_445.ext K_509
              replace hS_466 := hS_466.ext K_509
              replace ho_464 := ho_464.ext K_509
              replace ho_486 := ho_486.ext K_509
              replace ho_498 := ho_498.ext K_509
              replace K0 := K0.ext K_509
              refine ⟨.inr ⟨hb_35, trivial⟩, ?_⟩
              refine RT.gtakeP (v := .bool (false)) 8 rfl (by kernel_rfl) (.inr ⟨hb_35, trivial⟩) (wantedF1 rfl rfl rfl rfl) (fun hg _ => (x_not (b := true) rfl)) ?_
              refine RT.takeP (v := .bool (false)) 9 rfl (by kernel_rfl) (.inr ⟨hb_35, trivial⟩) (fun _ => (x_orF rfl rfl rfl)) ?_
              refine RT.takeP (v := .bool (false)) 10 rfl (by kernel_rfl) (.inr ⟨hb_35, trivial⟩) (fun _ => (x_moveB rfl)) ?_
              refine RT.gtakeP (v := .pointer (some ⟨s_1, 0, none⟩)) 11 rfl (by kernel_rfl) (.inr ⟨hb_35, trivial⟩) (wantedF1 rfl rfl rfl rfl) (fun hg _ => (x_moveP rfl)) ?_
              refine RT.gtakeP (v := .pointer (some ⟨b_32, 1, none⟩)) 12 rfl (by kernel_rfl) (.inr ⟨hb_35, trivial⟩) (wantedF1 rfl rfl rfl rfl) (fun hg _ => (x_fld (o' := 1) Try.underlying57 rfl ty3 rfl rfl rfl)) ?_
              refine RT.gtake (v := .int .i64 ((o).part)) 13 rfl (by kernel_rfl) ⟨hb_35, trivial⟩ (wantedF1 rfl rfl rfl rfl) (fun hg => by rintro _ ⟨hb_35, -⟩; exact (x_ld (v := .int .i64 ((o).part)) ty3 rfl rfl (hb_35.cl.field (i := 1) rfl))) ?_
              refine RT.gtakeP (v := .pointer (some ⟨b_32, 2, none⟩)) 14 rfl (by kernel_rfl) (.inr ⟨hb_35, trivial⟩) (wantedF1 rfl rfl rfl rfl) (fun hg _ => (x_fld (o' := 2) Try.underlying57 rfl ty3 rfl rfl rfl)) ?_
              refine RT.gtake (v := .int .i64 ((o).to)) 15 rfl (by kernel_rfl) ⟨hb_35, trivial⟩ (wantedF1 rfl rfl rfl rfl) (fun hg => by rintro _ ⟨hb_35, -⟩; exact (x_ld (v := .int .i64 ((o).to)) ty3 rfl rfl (hb_35.cl.field (i := 2) rfl))) ?_
              refine RT.gtakeP (v := .pointer (some ⟨s_9, 0, none⟩)) 17 rfl (by kernel_rfl) (.inr ⟨hb_35, trivial⟩) (wantedF1 rfl rfl rfl rfl) (fun hg _ => (x_moveP rfl)) ?_
              refine RT.gtakeP (v := .pointer (some ⟨b_32, 1, none⟩)) 18 rfl (by kernel_rfl) (.inr ⟨hb_35, trivial⟩) (wantedF1 rfl rfl rfl rfl) (fun hg _ => (x_fld (o' := 1) Try.underlying57 rfl ty3 rfl rfl rfl)) ?_
              refine RT.gtake (v := .int .i64 ((o).part)) 19 rfl (by kernel_rfl) ⟨hb_35, trivial⟩ (wantedF1 rfl rfl rfl rfl) (fun hg => by rintro _ ⟨hb_35, -⟩; exact (x_ld (v := .int .i64 ((o).part)) ty3 rfl rfl (hb_35.cl.field (i := 1) rfl))) ?_
              refine RT.gtakeP (v := .pointer (some ⟨b_32, 2, none⟩)) 20 rfl (by kernel_rfl) (.inr ⟨hb_35, trivial⟩) (wantedF1 rfl rfl rfl rfl) (fun hg _ => (x_fld (o' := 2) Try.underlying57 rfl ty3 rfl rfl rfl)) ?_
              refine RT.gtake (v := .int .i64 ((o).to)) 21 rfl (by kernel_rfl) ⟨hb_35, trivial⟩ (wantedF1 rfl rfl rfl rfl) (fun hg => by rintro _ ⟨hb_35, -⟩; exact (x_ld (v := .int .i64 ((o).to)) ty3 rfl rfl (hb_35.cl.field (i := 2) rfl))) ?_
              refine RT.gst 16 rfl (by kernel_rfl) (wantedF1 rfl rfl rfl rfl) <| St1.call (vals := [.pointer (some ⟨s_1, 0, none⟩), .int .i64 ((o).part), .int .i64 ((o).to)]) en18 rfl (doneD hS_447 ((o).part) ((o).to) (by first | decide | assumption | omega)) ?_
              rintro _ w_510 ⟨rfl, K_511⟩
              replace hb_35 := hb_35.ext K_511
              replace hS_447 := hS_447.ext K_511
              replace ho_445 := ho_445.ext K_511
              replace hS_466 := hS_466.ext K_511
              replace ho_464 := ho_464.ext K_511
              replace ho_486 := ho_486.ext K_511
              replace ho_498 := ho_498.ext K_511
              replace K0 := K0.ext K_511
              refine ⟨.inr ⟨hb_35, trivial⟩, ?_⟩
              refine RT.gst 22 rfl (by kernel_rfl) (wantedF1 rfl rfl rfl rfl) <| St1.call (vals := [.pointer (some ⟨s_9, 0, none⟩), .int .i64 ((o).part), .int .i64 ((o).to)]) en36 rfl (rdoneD hS_466 ((o).part) ((o).to) (by first | decide | assumption | omega)) ?_
              rintro _ w_512 ⟨rfl, K_513⟩
              replace hb_35 := hb_35.ext K_513
              replace hS_447 := hS_447.ext K_513
              replace ho_445 := ho_445.ext K_513
              replace hS_466 := hS_466.ext K_513
              replace ho_464 := ho_464.ext K_513
              replace ho_486 := ho_486.ext K_513
              replace ho_498 := ho_498.ext K_513
              replace K0 := K0.ext K_513
              refine ⟨.inr ⟨hb_35, trivial⟩, ?_⟩
              refine RT.gtakeP (v := .bool (false)) 23 rfl (by kernel_rfl) (.inr ⟨hb_35, trivial⟩) (wantedF1 rfl rfl rfl rfl) (fun hg _ => (litF (x_neB Try.underlying4 rfl rfl) (by simp))) ?_
              refine RT.takeP (v := .bool (false)) 24 rfl (by kernel_rfl) (.inr ⟨hb_35, trivial⟩) (fun _ => (x_orF rfl rfl rfl)) ?_
              refine RT.takeP (v := .bool (false)) 25 rfl (by kernel_rfl) (.inr ⟨hb_35, trivial⟩) (fun _ => (x_moveB rfl)) ?_
              refine RT.gtakeP (v := .pointer (some ⟨s_1, 0, none⟩)) 26 rfl (by kernel_rfl) (.inr ⟨hb_35, trivial⟩) (wantedF1 rfl rfl rfl rfl) (fun hg _ => (x_moveP rfl)) ?_
              refine RT.gtakeP (v := .pointer (some ⟨b_32, 1, none⟩)) 27 rfl (by kernel_rfl) (.inr ⟨hb_35, trivial⟩) (wantedF1 rfl rfl rfl rfl) (fun hg _ => (x_fld (o' := 1) Try.underlying57 rfl ty3 rfl rfl rfl)) ?_
              refine RT.gtake (v := .int .i64 ((o).part)) 28 rfl (by kernel_rfl) ⟨hb_35, trivial⟩ (wantedF1 rfl rfl rfl rfl) (fun hg => by rintro _ ⟨hb_35, -⟩; exact (x_ld (v := .int .i64 ((o).part)) ty3 rfl rfl (hb_35.cl.field (i := 1) rfl))) ?_
              refine RT.gtakeP (v := .pointer (some ⟨b_32, 2, none⟩)) 29 rfl (by kernel_rfl) (.inr ⟨hb_35, trivial⟩) (wantedF1 rfl rfl rfl rfl) (fun hg _ => (x_fld (o' := 2) Try.underlying57 rfl ty3 rfl rfl rfl)) ?_
              refine RT.gtake (v := .int .i64 ((o).to)) 30 rfl (by kernel_rfl) ⟨hb_35, trivial⟩ (wantedF1 rfl rfl rfl rfl) (fun hg => by rintro _ ⟨hb_35, -⟩; exact (x_ld (v := .int .i64 ((o).to)) ty3 rfl rfl (hb_35.cl.field (i := 2) rfl))) ?_
              refine RT.gtakeP (v := .pointer (some ⟨s_9, 0, none⟩)) 32 rfl (by kernel_rfl) (.inr ⟨hb_35, trivial⟩) (wantedF1 rfl rfl rfl rfl) (fun hg _ => (x_moveP rfl)) ?_
              refine RT.gtakeP (v := .pointer (some ⟨b_32, 1, none⟩)) 33 rfl (by kernel_rfl) (.inr ⟨hb_35, trivial⟩) (wantedF1 rfl rfl rfl rfl) (fun hg _ => (x_fld (o' := 1) Try.underlying57 rfl ty3 rfl rfl rfl)) ?_
              refine RT.gtake (v := .int .i64 ((o).part)) 34 rfl (by kernel_rfl) ⟨hb_35, trivial⟩ (wantedF1 rfl rfl rfl rfl) (fun hg => by rintro _ ⟨hb_35, -⟩; exact (x_ld (v := .int .i64 ((o).part)) ty3 rfl rfl (hb_35.cl.field (i := 1) rfl))) ?_
              refine RT.gtakeP (v := .pointer (some ⟨b_32, 2, none⟩)) 35 rfl (by kernel_rfl) (.inr ⟨hb_35, trivial⟩) (wantedF1 rfl rfl rfl rfl) (fun hg _ => (x_fld (o' := 2) Try.underlying57 rfl ty3 rfl rfl rfl)) ?_
              refine RT.gtake (v := .int .i64 ((o).to)) 36 rfl (by kernel_rfl) ⟨hb_35, trivial⟩ (wantedF1 rfl rfl rfl rfl) (fun hg => by rintro _ ⟨hb_35, -⟩; exact (x_ld (v := .int .i64 ((o).to)) ty3 rfl rfl (hb_35.cl.field (i := 2) rfl))) ?_
              refine RT.gst 31 rfl (by kernel_rfl) (wantedF1 rfl rfl rfl rfl) <| St1.call (vals := [.pointer (some ⟨s_1, 0, none⟩), .int .i64 ((o).part), .int .i64 ((o).to)]) en17 rfl (leftD hS_447 ((o).part) ((o).to) (by first | decide | assumption | omega)) ?_
              rintro _ w_514 ⟨rfl, K_515⟩
              replace hb_35 := hb_35.ext K_515
              replace hS_447 := hS_447.ext K_515
              replace ho_445 := ho_445.ext K_515
              replace hS_466 := hS_466.ext K_515
              replace ho_464 := ho_464.ext K_515
              replace ho_486 := ho_486.ext K_515
              replace ho_498 := ho_498.ext K_515
              replace K0 := K0.ext K_515
              refine ⟨.inr ⟨hb_35, trivial⟩, ?_⟩
              refine RT.gst 37 rfl (by kernel_rfl) (wantedF1 rfl rfl rfl rfl) <| St1.call (vals := [.pointer (some ⟨s_9, 0, none⟩), .int .i64 ((o).part), .int .i64 ((o).to)]) en37 rfl (rleftD hS_466 ((o).part) ((o).to) (by first | decide | assumption | omega)) ?_
              rintro _ w_516 ⟨rfl, K_517⟩
              replace hb_35 := hb_35.ext K_517
              replace hS_447 := hS_447.ext K_517
              replace ho_445 := ho_445.ext K_517
              replace hS_466 := hS_466.ext K_517
              replace ho_464 := ho_464.ext K_517
              replace ho_486 := ho_486.ext K_517
              replace ho_498 := ho_498.ext K_517
              replace K0 := K0.ext K_517
              refine ⟨.inr ⟨hb_35, trivial⟩, ?_⟩
              refine RT.gtakeP (v := .bool (false)) 38 rfl (by kernel_rfl) (.inr ⟨hb_35, trivial⟩) (wantedF1 rfl rfl rfl rfl) (fun hg _ => (litF (x_neI rfl rfl) (by simp))) ?_
              refine RT.takeP (v := .bool (false)) 39 rfl (by kernel_rfl) (.inr ⟨hb_35, trivial⟩) (fun _ => (x_orF rfl rfl rfl)) ?_
              refine RT.done (by kernel_rfl) ?_
              refine Run.condF rfl ?_
              refine Run.skip ?_
              refine Run.inBlock ?_
              refine Run.region ?_
              refine RL.val (litI (c := ((i + 1 : Nat) : Int)) (x_add rfl rfl (by omega) (by omega)) rfl) ?_
              refine RL.val (x_moveI rfl) ?_
              refine RL.nil ?_
              refine ih1 (i + 1) _ _ ?_ (by omega)
              refine ⟨F_443, F_462, max nw ((o).now), (onP self (max nw ((o).now)) rq pl (DoC.msg o self)).r, (onP self (max nw ((o).now)) rq pl (DoC.msg o self)).L, ⟨rfl, rfl, rfl, rfl, rfl, rfl, trivial⟩, K0, hS_447, hS_466, (fun q_ h1 h2 => pr_476 q_ h2 h1), pg_457, pg_478, ?_, ?_, ?_, ?_⟩
              · omega
              · omega
              · omega
              · omega
  · try simp only [br] at hc40
    refine Run.exit rfl ?_
    refine Run.seq ?_
    have hol : (openL self pl).length ≤ pl.length := by have := openL_len (self := self) (pl := pl) (i := pl.length); rwa [List.take_length] at this
    refine Run.region ?_
    refine RL.val (x_moveP rfl) ?_
    refine RL.st rfl <| St1.call (vals := [.pointer (some ⟨s_1, 0, none⟩)]) en21 rfl (openD hO_20 (by first | decide | assumption | omega)) ?_
    rintro _ w_520 ⟨a_518, c_519, rfl, ho_521, hg_522, K_523⟩
    have pr_524 : ∀ q_, own a_518 q_ → ¬ F1 q_ := apartNew hg_522 hO_20.own_lt
    have pr_525 : ∀ q_, own a_518 q_ → ¬ F2 q_ := apartNew hg_522 hO_21.own_lt
    have pg_526 : ∀ q_, own a_518 q_ → w.heap.size ≤ q_ := fun q_ h => Nat.le_trans K0.size (hg_522 q_ h)
    clear hg_522
    replace hO_20 := hO_20.ext K_523
    replace hO_21 := hO_21.ext K_523
    replace K0 := K0.ext K_523
    refine RL.val (x_moveP rfl) ?_
    refine RL.st rfl <| St1.call (vals := [.pointer (some ⟨s_9, 0, none⟩)]) en35 rfl (ropenD hO_21 (by first | decide | assumption | omega)) ?_
    rintro _ w_529 ⟨a_527, c_528, rfl, ho_530, hg_531, K_532⟩
    have pr_533 : ∀ q_, own a_527 q_ → ¬ F1 q_ := apartNew hg_531 hO_20.own_lt
    have pr_534 : ∀ q_, own a_527 q_ → ¬ F2 q_ := apartNew hg_531 hO_21.own_lt
    have pr_535 : ∀ q_, own a_527 q_ → ¬ own a_518 q_ := apartNew hg_531 ho_521.own_lt
    have pg_536 : ∀ q_, own a_527 q_ → w.heap.size ≤ q_ := fun q_ h => Nat.le_trans K0.size (hg_531 q_ h)
    clear hg_531
    replace hO_20 := hO_20.ext K_532
    replace hO_21 := hO_21.ext K_532
    replace ho_521 := ho_521.ext K_532
    replace K0 := K0.ext K_532
    refine RL.st rfl <| St1.call (vals := [.slice (a_518) ((openL self pl).length) (c_519), .slice (a_527) ((openL self pl).length) (c_528)]) en34 rfl (equalT (equal_move _ (openL self pl) _ _ _ _ _ ho_521.sl ho_530.sl (by omega))) ?_
    rintro _ w_537 ⟨rfl, K_538⟩
    replace hO_20 := hO_20.ext K_538
    replace hO_21 := hO_21.ext K_538
    replace ho_521 := ho_521.ext K_538
    replace ho_530 := ho_530.ext K_538
    replace K0 := K0.ext K_538
    refine RL.val (x_moveB rfl) ?_
    refine RL.gst (wantedT1 rfl rfl rfl rfl) <| St1.call (vals := []) en13 rfl (awake_ _) ?_
    rintro _ w_539 ⟨rfl, K_540⟩
    replace hO_20 := hO_20.ext K_540
    replace hO_21 := hO_21.ext K_540
    replace ho_521 := ho_521.ext K_540
    replace ho_530 := ho_530.ext K_540
    replace K0 := K0.ext K_540
    refine RL.val (x_andT rfl rfl rfl) ?_
    refine RL.val (x_assignB rfl) ?_
    refine RL.nil ?_
    refine Run.ret1 (v := .bool (true)) Try.func8 rfl rfl ?_
    exact ⟨_, rfl, rfl, K0⟩

set_option maxRecDepth 100000 in
set_option maxHeartbeats 4000000 in
theorem law_lives0 (self : Int) (as0 : Option Addr) (script : List DoC) (cs0 : Nat) (w : World) (h0 : SlOf w as0 script) (hl0 : script.length ≤ 1048576) (hq : ∀ o ∈ script, DoOk w o) (hn : ¬ (0 ≤ self ∧ self < 8)) :
    Calls Try.prog 8 #[.int .i64 (self), .slice (as0) (script.length) (cs0)] w (Ret (fun v w' => v = .bool true ∧ Ext w w')) := by
  refine calls_run (n := 177) Try.func8 rfl rfl rfl ?_
  refine Run.seq ?_
  refine Run.region ?_
  refine RL.val (x_assignB rfl) ?_
  refine RL.nil ?_
  refine Run.seq ?_
  refine Run.region ?_
  refine RL.val (x_moveI rfl) ?_
  refine RL.st rfl <| St1.call (vals := [.int .i64 (self)]) en10 rfl (newD self _) ?_
  rintro _ w_1 (⟨_, rfl, K_2⟩ | ⟨hb_3, _⟩)
  rotate_left
  · exact absurd hb_3 hn
  have K0 := (K_2 : Ext w _)
  refine RL.val (x_moveT rfl) ?_
  refine RL.val (x_extract rfl rfl) ?_
  refine RL.val (x_extract rfl rfl) ?_
  refine RL.val (x_assignP rfl) ?_
  refine RL.val (x_assignI rfl) ?_
  refine RL.nil ?_
  refine Run.seq ?_
  refine Run.region ?_
  refine RL.val (x_moveI rfl) ?_
  refine RL.st rfl <| St1.call (vals := [.int .i64 (self)]) en28 rfl (rnewD self _) ?_
  rintro _ w_4 (⟨_, rfl, K_5⟩ | ⟨hb_6, _⟩)
  rotate_left
  · exact absurd hb_6 hn
  replace K0 := K0.ext K_5
  refine RL.val (x_moveT rfl) ?_
  refine RL.val (x_extract rfl rfl) ?_
  refine RL.val (x_extract rfl rfl) ?_
  refine RL.val (x_assignP rfl) ?_
  refine RL.val (x_assignI rfl) ?_
  refine RL.nil ?_
  refine Run.seq ?_
  refine Run.seq ?_
  refine Run.region ?_
  refine RL.val (x_moveI rfl) ?_
  refine RL.val (x_moveI rfl) ?_
  refine RL.val (litF (x_neI rfl rfl) (by decide)) ?_
  refine RL.val (x_moveB rfl) ?_
  refine RL.gst (wantedF1 rfl rfl rfl rfl) <| St1.val (x_moveP rfl) ?_
  refine RL.gst (wantedF1 rfl rfl rfl rfl) <| St1.val (litT (x_ptrNil Try.underlying24 rfl rfl) rfl) ?_
  refine RL.gst (wantedF1 rfl rfl rfl rfl) <| St1.val (x_moveP rfl) ?_
  refine RL.gst (wantedF1 rfl rfl rfl rfl) <| St1.val (litT (x_ptrNil Try.underlying76 rfl rfl) rfl) ?_
  refine RL.gst (wantedF1 rfl rfl rfl rfl) <| St1.val (litF (litF (x_neB Try.underlying4 rfl rfl) rfl) rfl) ?_
  refine RL.val (x_orF rfl rfl rfl) ?_
  refine RL.nil ?_
  refine Run.condF rfl ?_
  refine Run.skip ?_
  refine Run.seq ?_
  refine Run.seq ?_
  refine Run.region ?_
  refine RL.val (x_moveP rfl) ?_
  refine RL.val (litT (x_ptrNil Try.underlying76 rfl rfl) rfl) ?_
  refine RL.nil ?_
  refine Run.condT rfl ?_
  refine Run.seq ?_
  refine Run.region ?_
  refine RL.st rfl <| St1.call (vals := []) en13 rfl (awake_ _) ?_
  rintro _ w_7 ⟨rfl, K_8⟩
  replace K0 := K0.ext K_8
  refine RL.val (x_assignB rfl) ?_
  refine RL.nil ?_
  refine Run.ret1 (v := .bool (true)) Try.func8 rfl rfl ?_
  exact ⟨_, rfl, rfl, K0⟩

theorem law_lives_all (self : Int) (as0 : Option Addr) (script : List DoC) (cs0 : Nat) (w : World) (h0 : SlOf w as0 script) (hl0 : script.length ≤ 1048576) (hq : ∀ o ∈ script, DoOk w o) :
    Calls Try.prog 8 #[.int .i64 self, .slice as0 script.length cs0] w (Ret fun v w' => v = .bool true ∧ Ext w w') := by
  by_cases hn : 0 ≤ self ∧ self < 8
  · exact law_lives self as0 script cs0 w h0 hl0 hq hn
  · exact law_lives0 self as0 script cs0 w h0 hl0 hq hn

end Go.Proofs.Ythhhkjmlnjbnjaa
