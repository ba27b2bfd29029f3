/-
  SwimLives.
-/
import Derived.Test.YtagfdmdajmkddaaRows
import Derived.Test.YtagfdmdajmkddaaLt
import Derived.Test.YtagfdmdajmkddaaFrame
namespace Go.Proofs.Ytagfdmdajmkddaa
attribute [local irreducible] St1 RL RA RT RT1 Run

open Sa
theorem hear_b {T : Tab} {l : List Peer} {t : Int} (ok : TabOk T) (nv : Nev T.self T) (ht : t ≤ 9223372036854775807) : (hear T l t).2.length ≤ l.length ∧ (hear T l t).1.pings.length = T.pings.length :=
  ⟨(hear_len (passT T t) l (passT_ok ok ht) l.length (Nat.le_refl _)).2, by rw [(nev_hear ok nv ok.self0 ht).2.2.2]⟩
attribute [local irreducible] tick on hear

theorem en32 : Enters Try.prog 32 := enters_of Try.func32 rfl (by kernel_rfl)
theorem en33 : Enters Try.prog 33 := enters_of Try.func33 rfl (by kernel_rfl)
theorem en34 : Enters Try.prog 34 := enters_of Try.func34 rfl (by kernel_rfl)
theorem en35 : Enters Try.prog 35 := enters_of Try.func35 rfl (by kernel_rfl)
theorem en36 : Enters Try.prog 36 := enters_of Try.func36 rfl (by kernel_rfl)
theorem en37 : Enters Try.prog 37 := enters_of Try.func37 rfl (by kernel_rfl)

set_option maxRecDepth 100000 in
set_option maxHeartbeats 4000000 in
theorem law_lives (n : Int) (as0 : Option Addr) (script : List DoC) (cs0 : Nat) (w : World) (h0 : SlOf w as0 script) (hl0 : script.length ≤ 1048576) (hq : ∀ o ∈ script, DoOk w o) (hn : 0 ≤ n ∧ n < 8) :
    Calls Try.prog 10 #[.int .i64 (n), .slice (as0) (script.length) (cs0)] w (Ret (fun v w' => v = .bool true ∧ Ext w w')) := by
  refine calls_run (n := 144) Try.func10 rfl rfl rfl ?_
  refine Run.seq ?_
  refine Run.region ?_
  refine RL.val (x_assignB rfl) ?_
  refine RL.nil ?_
  refine Run.seq ?_
  refine Run.region ?_
  refine RL.val (x_moveI rfl) ?_
  refine RL.st rfl <| St1.call (vals := [.int .i64 (n)]) en14 rfl (new_ n _) ?_
  rintro _ w_2 (⟨hbad_6, _, _⟩ | ⟨b_1, _, rfl, hT_3, hg_4, K_5⟩)
  · exact absurd hbad_6 (by omega)
  have pg_7 : ∀ q_, tabS b_1 none q_ → w.heap.size ≤ q_ := fun q_ h => Nat.le_trans (Nat.le_refl _) ((tabS_new hg_4) q_ h)
  clear hg_4
  have K0 := (K_5 : Ext w _)
  refine RL.val (x_moveT rfl) ?_
  refine RL.val (x_extract rfl rfl) ?_
  refine RL.val (x_extract rfl rfl) ?_
  refine RL.val (x_assignP rfl) ?_
  refine RL.val (x_assignI rfl) ?_
  refine RL.nil ?_
  refine Run.seq ?_
  refine Run.region ?_
  refine RL.val (x_moveI rfl) ?_
  refine RL.st rfl <| St1.call (vals := [.int .i64 (n)]) en32 rfl (newR_ n _) ?_
  rintro _ w_11 (⟨hbad_15, _, _⟩ | ⟨b_8, aL_9, cL_10, _, rfl, hR_12, hg_13, K_14⟩)
  · exact absurd hbad_15 (by omega)
  have pr_16 : ∀ q_, rtabS b_8 aL_9 none q_ → ¬ tabS b_1 none q_ := apartNew hg_13 hT_3.own_lt
  have pg_17 : ∀ q_, rtabS b_8 aL_9 none q_ → w.heap.size ≤ q_ := fun q_ h => Nat.le_trans K0.size (hg_13 q_ h)
  clear hg_13
  replace hT_3 := hT_3.ext K_14
  replace K0 := K0.ext K_14
  refine RL.val (x_moveT rfl) ?_
  refine RL.val (x_extract rfl rfl) ?_
  refine RL.val (x_extract rfl rfl) ?_
  refine RL.val (x_assignP rfl) ?_
  refine RL.val (x_assignI rfl) ?_
  refine RL.nil ?_
  refine Run.seq ?_
  refine Run.seq ?_
  refine Run.region ?_
  refine RL.val (x_moveI rfl) ?_
  refine RL.val (x_moveI rfl) ?_
  refine RL.val (litF (x_neI rfl rfl) (by decide)) ?_
  refine RL.val (x_moveB rfl) ?_
  refine RL.gst (wantedF1 rfl rfl rfl rfl) <| St1.val (x_moveP rfl) ?_
  refine RL.gst (wantedF1 rfl rfl rfl rfl) <| St1.val (litF (x_ptrNil Try.underlying28 rfl rfl) rfl) ?_
  refine RL.gst (wantedF1 rfl rfl rfl rfl) <| St1.val (x_moveP rfl) ?_
  refine RL.gst (wantedF1 rfl rfl rfl rfl) <| St1.val (litF (x_ptrNil Try.underlying78 rfl rfl) rfl) ?_
  refine RL.gst (wantedF1 rfl rfl rfl rfl) <| St1.val (litF (x_neB Try.underlying4 rfl rfl) rfl) ?_
  refine RL.val (x_orF rfl rfl rfl) ?_
  refine RL.nil ?_
  refine Run.condF rfl ?_
  refine Run.skip ?_
  refine Run.seq ?_
  refine Run.seq ?_
  refine Run.region ?_
  refine RL.val (x_moveP rfl) ?_
  refine RL.val (litF (x_ptrNil Try.underlying78 rfl rfl) rfl) ?_
  refine RL.nil ?_
  refine Run.condF rfl ?_
  refine Run.skip ?_
  refine Run.seq ?_
  refine Run.seq ?_
  refine Run.region ?_
  refine RL.val (x_moveSl rfl) ?_
  refine RL.val (x_lenSl Try.underlying75 rfl) ?_
  refine RL.val (x_moveI rfl) ?_
  refine RL.nil ?_
  refine Run.block ?_
  refine Run.loop (ι := Nat) (fun i ρ' w' => ∃ T : Tab, ∃ alb : Option Addr, ∃ clb : Nat, ∃ aLb : Option Addr, ∃ cLb : Nat, ∃ aPb : Option Addr, ∃ cPb : Nat, Holds ρ' [(0, .int .i64 (n)), (5, .pointer (some ⟨b_1, 0, none⟩)), (7, .pointer (some ⟨b_8, 0, none⟩)), (40, .slice (as0) (script.length) (cs0)), (41, .int .i64 (((script.length : Nat) : Int))), (42, .int .i64 (((i : Nat) : Int)))] ∧ Ext w w' ∧ (TabAt w' b_1 alb clb T) ∧ (RTabAt w' b_8 aLb cLb aPb cPb T) ∧ (∀ q_, tabS b_1 alb q_ → ¬ rtabS b_8 aLb aPb q_) ∧ (∀ q_, tabS b_1 alb q_ → w.heap.size ≤ q_) ∧ (∀ q_, rtabS b_8 aLb aPb q_ → w.heap.size ≤ q_) ∧ (i ≤ script.length) ∧ (T.pings.length ≤ i)) (fun i => script.length - i) 0 ?_ ?_
  · refine ⟨_, _, _, _, _, _, _, ⟨rfl, rfl, rfl, rfl, rfl, rfl, trivial⟩, K0, hT_3, hR_12, (fun q_ h1 h2 => pr_16 q_ h2 h1), pg_7, pg_17, ?_, ?_⟩
    · omega
    · simp [newT]
  clear hT_3 hR_12
  clear K0
  rintro i ρ_25 w_18 ⟨T, alb, clb, aLb, cLb, aPb, cPb, hH_19, K0, hO_20, hO_21, pr_22, pr_23, pr_24, hi, hpi⟩ ih1
  obtain ⟨ρ₀, rfl⟩ := hH_19.ex
  clear hH_19
  refine Run.seq ?_
  refine Run.region ?_
  refine RL.val (x_ltI rfl rfl) ?_
  refine RL.nil ?_
  refine Run.seq ?_
  refine Run.cond rfl (fun hc43 => ?_) (fun hc43 => ?_)
  · try simp only [br] at hc43
    refine Run.skip ?_
    refine Run.seq ?_
    refine Run.block ?_
    refine Run.seq ?_
    refine Run.region ?_
    refine RL.val (x_moveI rfl) ?_
    obtain ⟨b_26, o_27, o, hxo, ha_28, hc_29⟩ := h0.el (i := i) (by first | omega | (simp only [List.length_set]; omega))
    have hc_29_lt := hc_29.lt
    replace hc_29 := hc_29.ext K0
    refine RL.val (x_idxN Try.underlying75 ty65 rfl rfl ha_28 (by first | omega | (simp only [List.length_set]; omega))) ?_
    refine RL.val (x_ldV (v := .agg #[.int .i64 ((o).op), .int .i64 ((o).now), .slice ((o).peers.a) ((o).peers.len) ((o).peers.cap), .int .i64 ((o).kind), .int .i64 ((o).frm), .int .i64 ((o).req), .int .i64 ((o).owner), .int .i64 ((o).n)]) (y := o) ty65 rfl hc_29 rfl) ?_
    refine RL.st rfl <| St1.alloc ty65 ?_
    intro b_32 w_33 hl_36 hb_35 K_34
    replace hb_35 : Blk w_33 b_32 [.int .i64 (0), .int .i64 (0), .slice (none) (0) (0), .int .i64 (0), .int .i64 (0), .int .i64 (0), .int .i64 (0), .int .i64 (0)] 65 := hb_35
    have ne_37 : b_26 < b_32 := Nat.lt_of_lt_of_le hc_29.lt hl_36
    have pr_38 : ¬ tabS b_1 alb b_32 := fun h => absurd (hO_20.own_lt _ h) (by omega)
    have pr_39 : ¬ rtabS b_8 aLb aPb b_32 := fun h => absurd (hO_21.own_lt _ h) (by omega)
    have : w.heap.size ≤ b_32 := Nat.le_trans K0.size hl_36
    clear hl_36
    replace hO_20 := hO_20.ext K_34
    replace hO_21 := hO_21.ext K_34
    replace hc_29 := hc_29.ext K_34
    replace K0 := K0.ext K_34
    refine RL.val (x_assignI rfl) ?_
    refine RL.st rfl <| St1.store (v := .agg #[.int .i64 ((o).op), .int .i64 ((o).now), .slice ((o).peers.a) ((o).peers.len) ((o).peers.cap), .int .i64 ((o).kind), .int .i64 ((o).frm), .int .i64 ((o).req), .int .i64 ((o).owner), .int .i64 ((o).n)]) ty65 rfl rfl rfl (by simp [Value.cells, Value.oneCell']) hb_35 (by simp) ?_
    intro w_40 hb_35_ K_41
    have hb_35' : Blk w_40 b_32 [.int .i64 ((o).op), .int .i64 ((o).now), .slice ((o).peers.a) ((o).peers.len) ((o).peers.cap), .int .i64 ((o).kind), .int .i64 ((o).frm), .int .i64 ((o).req), .int .i64 ((o).owner), .int .i64 ((o).n)] 65 := hb_35_
    clear hb_35_
    replace hO_20 := hO_20.keepO K_41 (fun q_ hq_ eq_ => pr_38 (by simp only [one] at eq_; rw [← eq_]; exact hq_))
    replace hO_21 := hO_21.keepO K_41 (fun q_ hq_ eq_ => pr_39 (by simp only [one] at eq_; rw [← eq_]; exact hq_))
    replace hc_29 := hc_29.keep K_41 (by simp only [one]; omega)
    replace K0 := K0.new K_41 (fun x hx => by simp only [one] at hx; omega)
    replace hb_35 := hb_35'
    clear hb_35'
    refine RL.nil ?_
    obtain ⟨hni, pl, hpl1, hps, hpl2, hub⟩ := hq o (mem_of_at hxo)
    unfold i64 at hni
    refine Run.seq ?_
    refine Run.seq ?_
    refine Run.region ?_
    refine RL.val (x_moveI rfl) ?_
    refine RL.val (x_gtI rfl rfl) ?_
    refine RL.nil ?_
    refine Run.cond rfl (fun hc48 => ?_) (fun hc48 => ?_)
    · try simp only [br] at hc48
      refine Run.exit rfl ?_
      refine Run.seq ?_
      refine Run.region ?_
      refine RL.val (x_moveP rfl) ?_
      refine RL.val (x_moveP rfl) ?_
      refine RL.st rfl <| St1.call (vals := [.pointer (some ⟨b_1, 0, none⟩), .pointer (some ⟨b_8, 0, none⟩)]) en37 rfl (alike_ _ _ _ _ _ _ _ _ T _ hO_20 hO_21) ?_
      rintro _ w_42 ⟨rfl, K_43⟩
      replace hO_20 := hO_20.ext K_43
      replace hO_21 := hO_21.ext K_43
      replace hb_35 := hb_35.ext K_43
      replace K0 := K0.ext K_43
      refine RL.val (x_moveB rfl) ?_
      refine RL.gst (wantedT1 rfl rfl rfl rfl) <| St1.call (vals := []) en13 rfl (awake_ _) ?_
      rintro _ w_44 ⟨rfl, K_45⟩
      replace hO_20 := hO_20.ext K_45
      replace hO_21 := hO_21.ext K_45
      replace hb_35 := hb_35.ext K_45
      replace K0 := K0.ext K_45
      refine RL.val (x_andT rfl rfl rfl) ?_
      refine RL.val (x_assignB rfl) ?_
      refine RL.nil ?_
      refine Run.ret1 (v := .bool (true)) Try.func10 rfl rfl ?_
      exact ⟨_, rfl, rfl, K0⟩
    · try simp only [br] at hc48
      refine Run.skip ?_
      refine Run.seq ?_
      refine Run.region ?_
      refine RL.val (x_assignSl rfl) ?_
      refine RL.val (x_assignSl rfl) ?_
      refine RL.nil ?_
      refine Run.seq ?_
      refine Run.region ?_
      refine RL.val (x_assignSl rfl) ?_
      refine RL.val (x_assignSl rfl) ?_
      refine RL.nil ?_
      refine Run.seq ?_
      refine Run.seq ?_
      have hok := hO_20.ok
      have hl8 := hok.len
      have hnv := hO_21.nev
      refine Run.region ?_
      refine RL.val (x_fld (o' := 0) Try.underlying65 rfl ty3 rfl rfl rfl) ?_
      refine RL.val (x_ld (v := .int .i64 ((o).op)) ty3 rfl rfl (hb_35.cl.field (i := 0) rfl)) ?_
      refine RL.val (x_convI rfl ⟨_, Try.underlying3⟩ Try.underlying27) ?_
      refine RL.val (x_rem rfl rfl (by decide)) ?_
      refine RL.nil ?_
      refine Run.block ?_
      refine Run.seq ?_
      refine Run.region ?_
      refine RL.val (x_eqI rfl rfl) ?_
      refine RL.val (x_assignB rfl) ?_
      refine RL.nil ?_
      refine Run.cond rfl (fun hc73 => ?_) (fun hc73 => ?_)
      · try simp only [br] at hc73
        refine Run.seq ?_
        refine Run.region ?_
        refine RL.val (x_fld (o' := 2) Try.underlying65 rfl ty32 rfl rfl rfl) ?_
        refine RL.val (litSl (m' := pl.length) (x_ld (v := .slice ((o).peers.a) ((o).peers.len) ((o).peers.cap)) ty32 rfl rfl (hb_35.cl.field (i := 2) rfl)) hpl1) ?_
        refine RL.st rfl <| St1.call (vals := [.slice ((o).peers.a) (pl.length) ((o).peers.cap)]) en22 rfl (clone_peer _ _ _ _ (hps.ext K0) (by omega)) ?_
        rintro _ w_48 ⟨a_46, c_47, rfl, ho_49, hg_50, K_51⟩
        have pr_52 : ∀ q_, own a_46 q_ → ¬ tabS b_1 alb q_ := apartNew hg_50 hO_20.own_lt
        have pr_53 : ∀ q_, own a_46 q_ → ¬ rtabS b_8 aLb aPb q_ := apartNew hg_50 hO_21.own_lt
        have pr_54 : ¬ own a_46 b_32 := notNew hg_50 hb_35.lt
        have pg_55 : ∀ q_, own a_46 q_ → w.heap.size ≤ q_ := fun q_ h => Nat.le_trans K0.size (hg_50 q_ h)
        clear hg_50
        replace hO_20 := hO_20.ext K_51
        replace hO_21 := hO_21.ext K_51
        replace hb_35 := hb_35.ext K_51
        replace K0 := K0.ext K_51
        refine RL.val (x_assignSl rfl) ?_
        refine RL.nil ?_
        refine Run.seq ?_
        refine Run.drawT [] (m := 13) (by kernel_rfl) rfl ?_
        intro w_56 K_57
        replace hO_20 := hO_20.ext K_57
        replace hO_21 := hO_21.ext K_57
        replace hb_35 := hb_35.ext K_57
        replace ho_49 := ho_49.ext K_57
        replace K0 := K0.ext K_57
        refine ⟨fun w' => Blk w' b_32 [.int .i64 ((o).op), .int .i64 ((o).now), .slice ((o).peers.a) ((o).peers.len) ((o).peers.cap), .int .i64 ((o).kind), .int .i64 ((o).frm), .int .i64 ((o).req), .int .i64 ((o).owner), .int .i64 ((o).n)] 65 ∧ True, ?_⟩
        refine RT.takeP (v := .pointer (some ⟨b_1, 0, none⟩)) 0 rfl (by kernel_rfl) (.inr ⟨hb_35, trivial⟩) (fun _ => (x_moveP rfl)) ?_
        refine RT.takeP (v := .slice (a_46) (pl.length) (c_47)) 1 rfl (by kernel_rfl) (.inr ⟨hb_35, trivial⟩) (fun _ => (x_moveSl rfl)) ?_
        refine RT.takeP (v := .pointer (some ⟨b_32, 1, none⟩)) 2 rfl (by kernel_rfl) (.inr ⟨hb_35, trivial⟩) (fun _ => (x_fld (o' := 1) Try.underlying65 rfl ty3 rfl rfl rfl)) ?_
        refine RT.take (v := .int .i64 ((o).now)) 3 rfl (by kernel_rfl) ⟨hb_35, trivial⟩ (by rintro _ ⟨hb_35, -⟩; exact (x_ld (v := .int .i64 ((o).now)) ty3 rfl rfl (hb_35.cl.field (i := 1) rfl))) ?_
        refine RT.takeP (v := .pointer (some ⟨b_8, 0, none⟩)) 5 rfl (by kernel_rfl) (.inr ⟨hb_35, trivial⟩) (fun _ => (x_moveP rfl)) ?_
        refine RT.takeP (v := .pointer (some ⟨b_32, 2, none⟩)) 6 rfl (by kernel_rfl) (.inr ⟨hb_35, trivial⟩) (fun _ => (x_fld (o' := 2) Try.underlying65 rfl ty32 rfl rfl rfl)) ?_
        refine RT.take (v := .slice ((o).peers.a) (pl.length) ((o).peers.cap)) 7 rfl (by kernel_rfl) ⟨hb_35, trivial⟩ (by rintro _ ⟨hb_35, -⟩; exact (litSl (m' := pl.length) (x_ld (v := .slice ((o).peers.a) ((o).peers.len) ((o).peers.cap)) ty32 rfl rfl (hb_35.cl.field (i := 2) rfl)) hpl1)) ?_
        refine RT.takeP (v := .pointer (some ⟨b_32, 1, none⟩)) 8 rfl (by kernel_rfl) (.inr ⟨hb_35, trivial⟩) (fun _ => (x_fld (o' := 1) Try.underlying65 rfl ty3 rfl rfl rfl)) ?_
        refine RT.take (v := .int .i64 ((o).now)) 9 rfl (by kernel_rfl) ⟨hb_35, trivial⟩ (by rintro _ ⟨hb_35, -⟩; exact (x_ld (v := .int .i64 ((o).now)) ty3 rfl rfl (hb_35.cl.field (i := 1) rfl))) ?_
        refine RT.st 4 rfl (by kernel_rfl) rfl <| St1.call (vals := [.pointer (some ⟨b_1, 0, none⟩), .slice (a_46) (pl.length) (c_47), .int .i64 ((o).now)]) en15 rfl (hear_ _ _ _ T _ pl _ ((o).now) _ hO_20 ho_49.sl (fun x hx _ hb => (fun q_ h1 h2 => pr_52 q_ h2 h1) _ hb ((own_sub _) x hx)) (by first | omega | simp) (by omega)) ?_
        rintro _ w_60 ⟨a_58, c_59, rfl, ho_61, hg_62, hT_63, K_64⟩
        have pr_65 : ∀ q_, own a_58 q_ → ¬ tabS b_1 alb q_ := apartNew hg_62 hO_20.own_lt
        have pr_66 : ∀ q_, own a_58 q_ → ¬ rtabS b_8 aLb aPb q_ := apartNew hg_62 hO_21.own_lt
        have pr_67 : ¬ own a_58 b_32 := notNew hg_62 hb_35.lt
        have pr_68 : ∀ q_, own a_58 q_ → ¬ own a_46 q_ := apartNew hg_62 ho_49.own_lt
        have pg_69 : ∀ q_, own a_58 q_ → w.heap.size ≤ q_ := fun q_ h => Nat.le_trans K0.size (hg_62 q_ h)
        clear hg_62
        replace hO_21 := hO_21.keepO K_64 (fun q_ h1 h2 => pr_22 q_ h2 h1)
        replace hb_35 := hb_35.keep K_64 pr_38
        replace ho_49 := ho_49.keepO K_64 pr_52
        replace K0 := K0.new K_64 pr_23
        replace hO_20 := hT_63
        clear hT_63
        refine ⟨.inr ⟨hb_35, trivial⟩, ?_⟩
        refine RT.st 10 rfl (by kernel_rfl) rfl <| St1.call (vals := [.pointer (some ⟨b_8, 0, none⟩), .slice ((o).peers.a) (pl.length) ((o).peers.cap), .int .i64 ((o).now)]) en33 rfl (hearR_ _ _ _ _ _ T _ pl _ ((o).now) _ hO_21 (hps.ext K0) (fun q hq hne hb => (hub q hq).elim (fun h => absurd (pr_24 _ hb) (by omega)) hne) (by omega) (by omega)) ?_
        rintro _ w_76 ⟨aL_70, cL_71, aP_72, cP_73, a_74, c_75, rfl, hR_77, ho_78, hg_79, pr_80, hm_81, K_82⟩
        have pr_83 : ∀ q_, own a_74 q_ → ¬ tabS b_1 alb q_ := apartNew hg_79 hO_20.own_lt
        have pr_84 : ∀ q_, own a_74 q_ → ¬ rtabS b_8 aLb aPb q_ := apartNew hg_79 hO_21.own_lt
        have pr_85 : ¬ own a_74 b_32 := notNew hg_79 hb_35.lt
        have pr_86 : ∀ q_, own a_74 q_ → ¬ own a_46 q_ := apartNew hg_79 ho_49.own_lt
        have pr_87 : ∀ q_, own a_74 q_ → ¬ own a_58 q_ := apartNew hg_79 ho_61.own_lt
        have pg_88 : ∀ q_, own a_74 q_ → w.heap.size ≤ q_ := fun q_ h => Nat.le_trans K0.size (hg_79 q_ h)
        have pr_89 : ∀ q_, rtabS b_8 aL_70 aP_72 q_ → ¬ tabS b_1 alb q_ := hm_81.apart (fun q_ h1 h2 => pr_22 q_ h2 h1) hO_20.own_lt
        have pr_90 : ¬ rtabS b_8 aL_70 aP_72 b_32 := hm_81.not pr_39 hb_35.lt
        have pr_91 : ∀ q_, rtabS b_8 aL_70 aP_72 q_ → ¬ own a_46 q_ := hm_81.apart (fun q_ h1 h2 => pr_53 q_ h2 h1) ho_49.own_lt
        have pr_92 : ∀ q_, rtabS b_8 aL_70 aP_72 q_ → ¬ own a_58 q_ := hm_81.apart (fun q_ h1 h2 => pr_66 q_ h2 h1) ho_61.own_lt
        have pg_93 : ∀ q_, rtabS b_8 aL_70 aP_72 q_ → w.heap.size ≤ q_ := hm_81.ge pr_24 K0.size
        replace hO_20 := hO_20.keepO K_82 pr_22
        replace hb_35 := hb_35.keep K_82 pr_39
        replace ho_49 := ho_49.keepO K_82 pr_53
        replace ho_61 := ho_61.keepO K_82 pr_66
        replace K0 := K0.new K_82 pr_24
        clear hm_81 hg_79
        refine ⟨.inr ⟨hb_35, trivial⟩, ?_⟩
        refine RT.takeP (v := .slice (a_58) (((hear T pl ((o).now)).2).length) (c_59)) 11 rfl (by kernel_rfl) (.inr ⟨hb_35, trivial⟩) (fun _ => (x_assignSl rfl)) ?_
        refine RT.takeP (v := .slice (a_74) (((hear T pl ((o).now)).2).length) (c_75)) 12 rfl (by kernel_rfl) (.inr ⟨hb_35, trivial⟩) (fun _ => (x_assignSl rfl)) ?_
        refine RT.done (by kernel_rfl) ?_
        obtain ⟨hb1, hb2⟩ := hear_b (l := pl) (t := o.now) hok hnv (by omega)
        refine Run.seq ?_
        refine Run.region ?_
        refine RL.val (x_moveSl rfl) ?_
        refine RL.val (x_fld (o' := 2) Try.underlying65 rfl ty32 rfl rfl rfl) ?_
        refine RL.val (litSl (m' := pl.length) (x_ld (v := .slice ((o).peers.a) ((o).peers.len) ((o).peers.cap)) ty32 rfl rfl (hb_35.cl.field (i := 2) rfl)) hpl1) ?_
        refine RL.st rfl <| St1.call (vals := [.slice (a_46) (pl.length) (c_47), .slice ((o).peers.a) (pl.length) ((o).peers.cap)]) en25 rfl (equalT_peer _ pl _ _ _ _ ho_49.sl (hps.ext K0) (by omega)) ?_
        rintro _ w_94 ⟨rfl, K_95⟩
        replace hO_20 := hO_20.ext K_95
        replace hb_35 := hb_35.ext K_95
        replace ho_49 := ho_49.ext K_95
        replace ho_61 := ho_61.ext K_95
        replace hR_77 := hR_77.ext K_95
        replace ho_78 := ho_78.ext K_95
        replace K0 := K0.ext K_95
        refine RL.val (x_not rfl) ?_
        refine RL.nil ?_
        refine Run.condF rfl ?_
        refine Run.skip ?_
        refine Run.inBlock ?_
        refine Run.seq ?_
        refine Run.seq ?_
        refine Run.region ?_
        refine RL.val (x_moveSl rfl) ?_
        refine RL.val (x_moveSl rfl) ?_
        refine RL.st rfl <| St1.call (vals := [.slice (none) (0) (0), .slice (none) (0) (0)]) en36 rfl (same_ _ ([] : List MsgC) _ _ _ _ (SlOf.nil _ _) (SlOf.nil _ _) (by first | omega | (simp only [List.length_nil]; omega)) (by first | exact bare_nil | exact bare_tick _ _ | exact bare_on _ _ _)) ?_
        rintro _ w_96 ⟨rfl, K_97⟩
        replace hO_20 := hO_20.ext K_97
        replace hb_35 := hb_35.ext K_97
        replace ho_49 := ho_49.ext K_97
        replace ho_61 := ho_61.ext K_97
        replace hR_77 := hR_77.ext K_97
        replace ho_78 := ho_78.ext K_97
        replace K0 := K0.ext K_97
        refine RL.val (x_not rfl) ?_
        refine RL.val (x_moveB rfl) ?_
        refine RL.gst (wantedF1 rfl rfl rfl rfl) <| St1.val (x_moveSl rfl) ?_
        refine RL.gst (wantedF1 rfl rfl rfl rfl) <| St1.val (x_moveSl rfl) ?_
        refine RL.gst (wantedF1 rfl rfl rfl rfl) <| St1.call (vals := [.slice (a_58) (((hear T pl ((o).now)).2).length) (c_59), .slice (a_74) (((hear T pl ((o).now)).2).length) (c_75)]) en25 rfl (equalT_peer _ ((hear T pl ((o).now)).2) _ _ _ _ ho_61.sl ho_78.sl (by omega)) ?_
        rintro _ w_98 ⟨rfl, K_99⟩
        replace hO_20 := hO_20.ext K_99
        replace hb_35 := hb_35.ext K_99
        replace ho_49 := ho_49.ext K_99
        replace ho_61 := ho_61.ext K_99
        replace hR_77 := hR_77.ext K_99
        replace ho_78 := ho_78.ext K_99
        replace K0 := K0.ext K_99
        refine RL.gst (wantedF1 rfl rfl rfl rfl) <| St1.val (x_not rfl) ?_
        refine RL.val (x_orF rfl rfl rfl) ?_
        refine RL.val (x_moveB rfl) ?_
        refine RL.gst (wantedF1 rfl rfl rfl rfl) <| St1.val (x_moveP rfl) ?_
        refine RL.gst (wantedF1 rfl rfl rfl rfl) <| St1.val (x_moveP rfl) ?_
        refine RL.gst (wantedF1 rfl rfl rfl rfl) <| St1.call (vals := [.pointer (some ⟨b_1, 0, none⟩), .pointer (some ⟨b_8, 0, none⟩)]) en37 rfl (alike_ _ _ _ _ _ _ _ _ ((hear T pl ((o).now)).1) _ hO_20 hR_77) ?_
        rintro _ w_100 ⟨rfl, K_101⟩
        replace hO_20 := hO_20.ext K_101
        replace hb_35 := hb_35.ext K_101
        replace ho_49 := ho_49.ext K_101
        replace ho_61 := ho_61.ext K_101
        replace hR_77 := hR_77.ext K_101
        replace ho_78 := ho_78.ext K_101
        replace K0 := K0.ext K_101
        refine RL.gst (wantedF1 rfl rfl rfl rfl) <| St1.val (x_not rfl) ?_
        refine RL.val (x_orF rfl rfl rfl) ?_
        refine RL.nil ?_
        refine Run.condF rfl ?_
        refine Run.skip ?_
        refine Run.seq ?_
        refine Run.region ?_
        refine RL.val (x_moveSl rfl) ?_
        refine RL.val (x_lenSl Try.underlying32 rfl) ?_
        refine RL.val (x_moveI rfl) ?_
        refine RL.nil ?_
        refine Run.block ?_
        refine Run.loop (ι := Nat) (fun j ρ' w' => ∃ a9 : Option Addr, ∃ c9 : Nat, ∃ L9 : List Peer, Holds ρ' [(0, .int .i64 (n)), (5, .pointer (some ⟨b_1, 0, none⟩)), (7, .pointer (some ⟨b_8, 0, none⟩)), (13, .slice (a9) (((hear T pl ((o).now)).2).length) (c9)), (40, .slice (as0) (script.length) (cs0)), (41, .int .i64 (((script.length : Nat) : Int))), (42, .int .i64 (((i : Nat) : Int))), (43, .bool (decide (((i : Nat) : Int) < ((script.length : Nat) : Int)))), (128, .int .i64 (((((hear T pl ((o).now)).2).length : Nat) : Int))), (129, .int .i64 (((j : Nat) : Int)))] ∧ Ext w w' ∧ (Blk w' b_32 [.int .i64 ((o).op), .int .i64 ((o).now), .slice ((o).peers.a) ((o).peers.len) ((o).peers.cap), .int .i64 ((o).kind), .int .i64 ((o).frm), .int .i64 ((o).req), .int .i64 ((o).owner), .int .i64 ((o).n)] 65) ∧ (TabAt w' b_1 alb clb ((hear T pl ((o).now)).1)) ∧ (OwnSl w' 23 (a_46) (c_47) (pl)) ∧ (RTabAt w' b_8 aL_70 cL_71 aP_72 cP_73 ((hear T pl ((o).now)).1)) ∧ (OwnSl w' 23 (a_74) (c_75) ((hear T pl ((o).now)).2)) ∧ (OwnSl w' 23 a9 c9 (L9)) ∧ (¬ own a9 b_32) ∧ (∀ q_, own a9 q_ → ¬ tabS b_1 alb q_) ∧ (∀ q_, own a9 q_ → ¬ own a_46 q_) ∧ (∀ q_, own a9 q_ → ¬ rtabS b_8 aL_70 aP_72 q_) ∧ (∀ q_, own a9 q_ → ¬ own a_74 q_) ∧ (∀ q_, own a9 q_ → w.heap.size ≤ q_) ∧ (j ≤ ((hear T pl ((o).now)).2).length) ∧ (L9.length = ((hear T pl ((o).now)).2).length)) (fun j => ((hear T pl ((o).now)).2).length - j) 0 ?_ ?_
        · refine ⟨_, _, _, ⟨rfl, rfl, rfl, rfl, rfl, rfl, rfl, rfl, rfl, rfl, trivial⟩, K0, hb_35, hO_20, ho_49, hR_77, ho_78, ho_61, pr_67, pr_65, pr_68, (fun q_ h1 h2 => pr_92 q_ h2 h1), (fun q_ h1 h2 => pr_87 q_ h2 h1), pg_69, ?_, ?_⟩
          · omega
          · rfl
        clear hO_20 hb_35 ho_49 ho_61 hR_77 ho_78
        clear K0
        rintro j ρ_111 w_102 ⟨a9, c9, L9, hH_103, K0, hb_35, hO_20, ho_49, hR_77, ho_78, ho_104, pr_105, pr_106, pr_107, pr_108, pr_109, pr_110, hj, hL9⟩ ih2
        obtain ⟨ρ₀, rfl⟩ := hH_103.ex
        clear hH_103
        refine Run.seq ?_
        refine Run.region ?_
        refine RL.val (x_ltI rfl rfl) ?_
        refine RL.nil ?_
        refine Run.seq ?_
        refine Run.cond rfl (fun hc130 => ?_) (fun hc130 => ?_)
        · try simp only [br] at hc130
          refine Run.skip ?_
          refine Run.seq ?_
          refine Run.block ?_
          refine Run.seq ?_
          refine Run.region ?_
          refine RL.val (x_moveI rfl) ?_
          refine RL.val (x_assignI rfl) ?_
          refine RL.nil ?_
          refine Run.region ?_
          refine RL.val (x_moveSl rfl) ?_
          refine RL.val (x_moveI rfl) ?_
          obtain ⟨b_112, o_113, x_116, hx_117, ha_114, hc_115⟩ := ho_104.sl.el (i := j) (by omega)
          refine RL.val (x_idxN Try.underlying32 ty23 rfl rfl ha_114 (by omega)) ?_
          refine RL.val (x_fld (o' := o_113 + j * 3 + 0) Try.underlying23 rfl ty3 rfl rfl rfl) ?_
          refine RL.st rfl <| St1.storeEl (v := .int .i64 (99)) (off := 0) (i := j) (⟨99, x_116.inc, x_116.status⟩ : Peer) ty3 rfl rfl rfl (by simp [Value.cells, Value.oneCell']) ho_104 ha_114 hx_117 rfl (by decide) rfl ?_
          intro w_118 ho_120 K_119
          clear hc_115
          replace hb_35 := hb_35.keep K_119 pr_105
          replace hO_20 := hO_20.keepO K_119 (fun q_ h1 h2 => pr_106 q_ h2 h1)
          replace ho_49 := ho_49.keepO K_119 (fun q_ h1 h2 => pr_107 q_ h2 h1)
          replace hR_77 := hR_77.keepO K_119 (fun q_ h1 h2 => pr_108 q_ h2 h1)
          replace ho_78 := ho_78.keepO K_119 (fun q_ h1 h2 => pr_109 q_ h2 h1)
          replace K0 := K0.new K_119 pr_110
          replace ho_104 := ho_120
          clear ho_120
          refine RL.nil ?_
          refine Run.inBlock ?_
          refine Run.region ?_
          refine RL.val (litI (c := ((j + 1 : Nat) : Int)) (x_add rfl rfl (by omega) (by omega)) rfl) ?_
          refine RL.val (x_moveI rfl) ?_
          refine RL.nil ?_
          refine ih2 (j + 1) _ _ ?_ (by omega)
          refine ⟨_, _, _, ⟨rfl, rfl, rfl, rfl, rfl, rfl, rfl, rfl, rfl, rfl, trivial⟩, K0, hb_35, hO_20, ho_49, hR_77, ho_78, ho_104, pr_105, pr_106, pr_107, pr_108, pr_109, pr_110, ?_, ?_⟩
          · omega
          · simpa using hL9
        · try simp only [br] at hc130
          refine Run.exit rfl ?_
          refine Run.inBlock ?_
          refine Run.region ?_
          refine RL.val (litI (c := ((i + 1 : Nat) : Int)) (x_add rfl rfl (by omega) (by omega)) rfl) ?_
          refine RL.val (x_moveI rfl) ?_
          refine RL.nil ?_
          refine ih1 (i + 1) _ _ ?_ (by omega)
          refine ⟨_, _, _, _, _, _, _, ⟨rfl, rfl, rfl, rfl, rfl, rfl, trivial⟩, K0, hO_20, hR_77, (fun q_ h1 h2 => pr_89 q_ h2 h1), pr_23, pg_93, ?_, ?_⟩
          · omega
          · omega
      · try simp only [br] at hc73
        refine Run.seq ?_
        refine Run.seq ?_
        refine Run.region ?_
        refine RL.val (x_eqI rfl rfl) ?_
        refine RL.val (x_assignB rfl) ?_
        refine RL.nil ?_
        refine Run.cond rfl (fun hc94 => ?_) (fun hc94 => ?_)
        · try simp only [br] at hc94
          refine Run.skip ?_
          refine Run.cond rfl (fun hc94 => ?_) (fun hc94 => ?_)
          · try simp only [br] at hc94
            refine Run.seq ?_
            refine Run.region ?_
            refine RL.val (x_moveP rfl) ?_
            refine RL.val (x_fld (o' := 1) Try.underlying65 rfl ty3 rfl rfl rfl) ?_
            refine RL.val (x_ld (v := .int .i64 ((o).now)) ty3 rfl rfl (hb_35.cl.field (i := 1) rfl)) ?_
            refine RL.st rfl <| St1.call (vals := [.pointer (some ⟨b_1, 0, none⟩), .int .i64 ((o).now)]) en16 rfl (tick_ _ _ _ T ((o).now) _ hO_20 (by omega) (by omega)) ?_
            rintro _ w_123 ⟨al_121, cl_122, a_127, c_128, a_129, c_130, rfl, hT_124, ho_131, ho_132, hg_133, hg_134, pr_135, pr_136, pr_137, hm_125, K_126⟩
            have pr_138 : ∀ q_, own a_127 q_ → ¬ tabS b_1 alb q_ := apartNew hg_133 hO_20.own_lt
            have pr_139 : ∀ q_, own a_127 q_ → ¬ rtabS b_8 aLb aPb q_ := apartNew hg_133 hO_21.own_lt
            have pr_140 : ¬ own a_127 b_32 := notNew hg_133 hb_35.lt
            have pg_141 : ∀ q_, own a_127 q_ → w.heap.size ≤ q_ := fun q_ h => Nat.le_trans K0.size (hg_133 q_ h)
            have pr_142 : ∀ q_, own a_129 q_ → ¬ tabS b_1 alb q_ := apartNew hg_134 hO_20.own_lt
            have pr_143 : ∀ q_, own a_129 q_ → ¬ rtabS b_8 aLb aPb q_ := apartNew hg_134 hO_21.own_lt
            have pr_144 : ¬ own a_129 b_32 := notNew hg_134 hb_35.lt
            have pg_145 : ∀ q_, own a_129 q_ → w.heap.size ≤ q_ := fun q_ h => Nat.le_trans K0.size (hg_134 q_ h)
            have pr_146 : ∀ q_, tabS b_1 al_121 q_ → ¬ rtabS b_8 aLb aPb q_ := hm_125.apart pr_22 hO_21.own_lt
            have pr_147 : ¬ tabS b_1 al_121 b_32 := hm_125.not pr_38 hb_35.lt
            have pg_148 : ∀ q_, tabS b_1 al_121 q_ → w.heap.size ≤ q_ := hm_125.ge pr_23 K0.size
            replace hO_21 := hO_21.keepO K_126 (fun q_ h1 h2 => pr_22 q_ h2 h1)
            replace hb_35 := hb_35.keep K_126 pr_38
            replace K0 := K0.new K_126 pr_23
            clear hm_125
            clear hg_133 hg_134
            refine RL.val (x_moveT rfl) ?_
            refine RL.val (x_extract rfl rfl) ?_
            refine RL.val (x_extract rfl rfl) ?_
            refine RL.val (x_assignSl rfl) ?_
            refine RL.val (x_assignSl rfl) ?_
            refine RL.nil ?_
            refine Run.region ?_
            refine RL.val (x_moveP rfl) ?_
            refine RL.val (x_fld (o' := 1) Try.underlying65 rfl ty3 rfl rfl rfl) ?_
            refine RL.val (x_ld (v := .int .i64 ((o).now)) ty3 rfl rfl (hb_35.cl.field (i := 1) rfl)) ?_
            refine RL.st rfl <| St1.call (vals := [.pointer (some ⟨b_8, 0, none⟩), .int .i64 ((o).now)]) en34 rfl (tickR_ _ _ _ _ _ T ((o).now) _ hO_21 (by omega) (by omega)) ?_
            rintro _ w_153 ⟨aL_149, cL_150, aP_151, cP_152, a_157, c_158, a_159, c_160, rfl, hR_154, ho_161, ho_162, hg_163, hg_164, pr_165, pr_166, pr_167, hm_155, K_156⟩
            have pr_168 : ∀ q_, own a_157 q_ → ¬ rtabS b_8 aLb aPb q_ := apartNew hg_163 hO_21.own_lt
            have pr_169 : ¬ own a_157 b_32 := notNew hg_163 hb_35.lt
            have pr_170 : ∀ q_, own a_157 q_ → ¬ tabS b_1 al_121 q_ := apartNew hg_163 hT_124.own_lt
            have pr_171 : ∀ q_, own a_157 q_ → ¬ own a_127 q_ := apartNew hg_163 ho_131.own_lt
            have pr_172 : ∀ q_, own a_157 q_ → ¬ own a_129 q_ := apartNew hg_163 ho_132.own_lt
            have pg_173 : ∀ q_, own a_157 q_ → w.heap.size ≤ q_ := fun q_ h => Nat.le_trans K0.size (hg_163 q_ h)
            have pr_174 : ∀ q_, own a_159 q_ → ¬ rtabS b_8 aLb aPb q_ := apartNew hg_164 hO_21.own_lt
            have pr_175 : ¬ own a_159 b_32 := notNew hg_164 hb_35.lt
            have pr_176 : ∀ q_, own a_159 q_ → ¬ tabS b_1 al_121 q_ := apartNew hg_164 hT_124.own_lt
            have pr_177 : ∀ q_, own a_159 q_ → ¬ own a_127 q_ := apartNew hg_164 ho_131.own_lt
            have pr_178 : ∀ q_, own a_159 q_ → ¬ own a_129 q_ := apartNew hg_164 ho_132.own_lt
            have pg_179 : ∀ q_, own a_159 q_ → w.heap.size ≤ q_ := fun q_ h => Nat.le_trans K0.size (hg_164 q_ h)
            have pr_180 : ¬ rtabS b_8 aL_149 aP_151 b_32 := hm_155.not pr_39 hb_35.lt
            have pr_181 : ∀ q_, rtabS b_8 aL_149 aP_151 q_ → ¬ tabS b_1 al_121 q_ := hm_155.apart (fun q_ h1 h2 => pr_146 q_ h2 h1) hT_124.own_lt
            have pr_182 : ∀ q_, rtabS b_8 aL_149 aP_151 q_ → ¬ own a_127 q_ := hm_155.apart (fun q_ h1 h2 => pr_139 q_ h2 h1) ho_131.own_lt
            have pr_183 : ∀ q_, rtabS b_8 aL_149 aP_151 q_ → ¬ own a_129 q_ := hm_155.apart (fun q_ h1 h2 => pr_143 q_ h2 h1) ho_132.own_lt
            have pg_184 : ∀ q_, rtabS b_8 aL_149 aP_151 q_ → w.heap.size ≤ q_ := hm_155.ge pr_24 K0.size
            replace hb_35 := hb_35.keep K_156 pr_39
            replace hT_124 := hT_124.keepO K_156 pr_146
            replace ho_131 := ho_131.keepO K_156 pr_139
            replace ho_132 := ho_132.keepO K_156 pr_143
            replace K0 := K0.new K_156 pr_24
            clear hm_155 hg_163 hg_164
            refine RL.val (x_moveT rfl) ?_
            refine RL.val (x_extract rfl rfl) ?_
            refine RL.val (x_extract rfl rfl) ?_
            refine RL.val (x_assignSl rfl) ?_
            refine RL.val (x_assignSl rfl) ?_
            refine RL.nil ?_
            obtain ⟨_, hb1, hb2, hb3⟩ := tick_ok (t := o.now) hok (by omega)
            refine Run.inBlock ?_
            refine Run.seq ?_
            refine Run.seq ?_
            refine Run.region ?_
            refine RL.val (x_moveSl rfl) ?_
            refine RL.val (x_moveSl rfl) ?_
            refine RL.st rfl <| St1.call (vals := [.slice (a_127) (((tick T ((o).now)).out).length) (c_128), .slice (a_157) (((tick T ((o).now)).out).length) (c_158)]) en36 rfl (same_ _ ((tick T ((o).now)).out) _ _ _ _ ho_131.sl ho_161.sl (by first | omega | (simp only [List.length_nil]; omega)) (by first | exact bare_nil | exact bare_tick _ _ | exact bare_on _ _ _)) ?_
            rintro _ w_185 ⟨rfl, K_186⟩
            replace hb_35 := hb_35.ext K_186
            replace hT_124 := hT_124.ext K_186
            replace ho_131 := ho_131.ext K_186
            replace ho_132 := ho_132.ext K_186
            replace hR_154 := hR_154.ext K_186
            replace ho_161 := ho_161.ext K_186
            replace ho_162 := ho_162.ext K_186
            replace K0 := K0.ext K_186
            refine RL.val (x_not rfl) ?_
            refine RL.val (x_moveB rfl) ?_
            refine RL.gst (wantedF1 rfl rfl rfl rfl) <| St1.val (x_moveSl rfl) ?_
            refine RL.gst (wantedF1 rfl rfl rfl rfl) <| St1.val (x_moveSl rfl) ?_
            refine RL.gst (wantedF1 rfl rfl rfl rfl) <| St1.call (vals := [.slice (a_129) (((tick T ((o).now)).told).length) (c_130), .slice (a_159) (((tick T ((o).now)).told).length) (c_160)]) en25 rfl (equalT_peer _ ((tick T ((o).now)).told) _ _ _ _ ho_132.sl ho_162.sl (by omega)) ?_
            rintro _ w_187 ⟨rfl, K_188⟩
            replace hb_35 := hb_35.ext K_188
            replace hT_124 := hT_124.ext K_188
            replace ho_131 := ho_131.ext K_188
            replace ho_132 := ho_132.ext K_188
            replace hR_154 := hR_154.ext K_188
            replace ho_161 := ho_161.ext K_188
            replace ho_162 := ho_162.ext K_188
            replace K0 := K0.ext K_188
            refine RL.gst (wantedF1 rfl rfl rfl rfl) <| St1.val (x_not rfl) ?_
            refine RL.val (x_orF rfl rfl rfl) ?_
            refine RL.val (x_moveB rfl) ?_
            refine RL.gst (wantedF1 rfl rfl rfl rfl) <| St1.val (x_moveP rfl) ?_
            refine RL.gst (wantedF1 rfl rfl rfl rfl) <| St1.val (x_moveP rfl) ?_
            refine RL.gst (wantedF1 rfl rfl rfl rfl) <| St1.call (vals := [.pointer (some ⟨b_1, 0, none⟩), .pointer (some ⟨b_8, 0, none⟩)]) en37 rfl (alike_ _ _ _ _ _ _ _ _ ((tick T ((o).now)).T) _ hT_124 hR_154) ?_
            rintro _ w_189 ⟨rfl, K_190⟩
            replace hb_35 := hb_35.ext K_190
            replace hT_124 := hT_124.ext K_190
            replace ho_131 := ho_131.ext K_190
            replace ho_132 := ho_132.ext K_190
            replace hR_154 := hR_154.ext K_190
            replace ho_161 := ho_161.ext K_190
            replace ho_162 := ho_162.ext K_190
            replace K0 := K0.ext K_190
            refine RL.gst (wantedF1 rfl rfl rfl rfl) <| St1.val (x_not rfl) ?_
            refine RL.val (x_orF rfl rfl rfl) ?_
            refine RL.nil ?_
            refine Run.condF rfl ?_
            refine Run.skip ?_
            refine Run.seq ?_
            refine Run.region ?_
            refine RL.val (x_moveSl rfl) ?_
            refine RL.val (x_lenSl Try.underlying32 rfl) ?_
            refine RL.val (x_moveI rfl) ?_
            refine RL.nil ?_
            refine Run.block ?_
            refine Run.loop (ι := Nat) (fun j ρ' w' => ∃ a9 : Option Addr, ∃ c9 : Nat, ∃ L9 : List Peer, Holds ρ' [(0, .int .i64 (n)), (5, .pointer (some ⟨b_1, 0, none⟩)), (7, .pointer (some ⟨b_8, 0, none⟩)), (13, .slice (a9) (((tick T ((o).now)).told).length) (c9)), (40, .slice (as0) (script.length) (cs0)), (41, .int .i64 (((script.length : Nat) : Int))), (42, .int .i64 (((i : Nat) : Int))), (43, .bool (decide (((i : Nat) : Int) < ((script.length : Nat) : Int)))), (128, .int .i64 (((((tick T ((o).now)).told).length : Nat) : Int))), (129, .int .i64 (((j : Nat) : Int)))] ∧ Ext w w' ∧ (Blk w' b_32 [.int .i64 ((o).op), .int .i64 ((o).now), .slice ((o).peers.a) ((o).peers.len) ((o).peers.cap), .int .i64 ((o).kind), .int .i64 ((o).frm), .int .i64 ((o).req), .int .i64 ((o).owner), .int .i64 ((o).n)] 65) ∧ (TabAt w' b_1 al_121 cl_122 ((tick T ((o).now)).T)) ∧ (OwnSl w' 61 (a_127) (c_128) ((tick T ((o).now)).out)) ∧ (RTabAt w' b_8 aL_149 cL_150 aP_151 cP_152 ((tick T ((o).now)).T)) ∧ (OwnSl w' 61 (a_157) (c_158) ((tick T ((o).now)).out)) ∧ (OwnSl w' 23 (a_159) (c_160) ((tick T ((o).now)).told)) ∧ (OwnSl w' 23 a9 c9 (L9)) ∧ (¬ own a9 b_32) ∧ (∀ q_, own a9 q_ → ¬ tabS b_1 al_121 q_) ∧ (∀ q_, own a9 q_ → ¬ own a_127 q_) ∧ (∀ q_, own a9 q_ → ¬ rtabS b_8 aL_149 aP_151 q_) ∧ (∀ q_, own a9 q_ → ¬ own a_157 q_) ∧ (∀ q_, own a9 q_ → ¬ own a_159 q_) ∧ (∀ q_, own a9 q_ → w.heap.size ≤ q_) ∧ (j ≤ ((tick T ((o).now)).told).length) ∧ (L9.length = ((tick T ((o).now)).told).length)) (fun j => ((tick T ((o).now)).told).length - j) 0 ?_ ?_
            · refine ⟨_, _, _, ⟨rfl, rfl, rfl, rfl, rfl, rfl, rfl, rfl, rfl, rfl, trivial⟩, K0, hb_35, hT_124, ho_131, hR_154, ho_161, ho_162, ho_132, pr_144, pr_136, (fun q_ h1 h2 => pr_137 q_ h2 h1), (fun q_ h1 h2 => pr_183 q_ h2 h1), (fun q_ h1 h2 => pr_172 q_ h2 h1), (fun q_ h1 h2 => pr_178 q_ h2 h1), pg_145, ?_, ?_⟩
              · omega
              · rfl
            clear hb_35 hT_124 ho_131 ho_132 hR_154 ho_161 ho_162
            clear K0
            rintro j ρ_201 w_191 ⟨a9, c9, L9, hH_192, K0, hb_35, hT_124, ho_131, hR_154, ho_161, ho_162, ho_193, pr_194, pr_195, pr_196, pr_197, pr_198, pr_199, pr_200, hj, hL9⟩ ih3
            obtain ⟨ρ₀, rfl⟩ := hH_192.ex
            clear hH_192
            refine Run.seq ?_
            refine Run.region ?_
            refine RL.val (x_ltI rfl rfl) ?_
            refine RL.nil ?_
            refine Run.seq ?_
            refine Run.cond rfl (fun hc130 => ?_) (fun hc130 => ?_)
            · try simp only [br] at hc130
              refine Run.skip ?_
              refine Run.seq ?_
              refine Run.block ?_
              refine Run.seq ?_
              refine Run.region ?_
              refine RL.val (x_moveI rfl) ?_
              refine RL.val (x_assignI rfl) ?_
              refine RL.nil ?_
              refine Run.region ?_
              refine RL.val (x_moveSl rfl) ?_
              refine RL.val (x_moveI rfl) ?_
              obtain ⟨b_202, o_203, x_206, hx_207, ha_204, hc_205⟩ := ho_193.sl.el (i := j) (by omega)
              refine RL.val (x_idxN Try.underlying32 ty23 rfl rfl ha_204 (by omega)) ?_
              refine RL.val (x_fld (o' := o_203 + j * 3 + 0) Try.underlying23 rfl ty3 rfl rfl rfl) ?_
              refine RL.st rfl <| St1.storeEl (v := .int .i64 (99)) (off := 0) (i := j) (⟨99, x_206.inc, x_206.status⟩ : Peer) ty3 rfl rfl rfl (by simp [Value.cells, Value.oneCell']) ho_193 ha_204 hx_207 rfl (by decide) rfl ?_
              intro w_208 ho_210 K_209
              clear hc_205
              replace hb_35 := hb_35.keep K_209 pr_194
              replace hT_124 := hT_124.keepO K_209 (fun q_ h1 h2 => pr_195 q_ h2 h1)
              replace ho_131 := ho_131.keepO K_209 (fun q_ h1 h2 => pr_196 q_ h2 h1)
              replace hR_154 := hR_154.keepO K_209 (fun q_ h1 h2 => pr_197 q_ h2 h1)
              replace ho_161 := ho_161.keepO K_209 (fun q_ h1 h2 => pr_198 q_ h2 h1)
              replace ho_162 := ho_162.keepO K_209 (fun q_ h1 h2 => pr_199 q_ h2 h1)
              replace K0 := K0.new K_209 pr_200
              replace ho_193 := ho_210
              clear ho_210
              refine RL.nil ?_
              refine Run.inBlock ?_
              refine Run.region ?_
              refine RL.val (litI (c := ((j + 1 : Nat) : Int)) (x_add rfl rfl (by omega) (by omega)) rfl) ?_
              refine RL.val (x_moveI rfl) ?_
              refine RL.nil ?_
              refine ih3 (j + 1) _ _ ?_ (by omega)
              refine ⟨_, _, _, ⟨rfl, rfl, rfl, rfl, rfl, rfl, rfl, rfl, rfl, rfl, trivial⟩, K0, hb_35, hT_124, ho_131, hR_154, ho_161, ho_162, ho_193, pr_194, pr_195, pr_196, pr_197, pr_198, pr_199, pr_200, ?_, ?_⟩
              · omega
              · simpa using hL9
            · try simp only [br] at hc130
              refine Run.exit rfl ?_
              refine Run.inBlock ?_
              refine Run.region ?_
              refine RL.val (litI (c := ((i + 1 : Nat) : Int)) (x_add rfl rfl (by omega) (by omega)) rfl) ?_
              refine RL.val (x_moveI rfl) ?_
              refine RL.nil ?_
              refine ih1 (i + 1) _ _ ?_ (by omega)
              refine ⟨_, _, _, _, _, _, _, ⟨rfl, rfl, rfl, rfl, rfl, rfl, trivial⟩, K0, hT_124, hR_154, (fun q_ h1 h2 => pr_181 q_ h2 h1), pg_148, pg_184, ?_, ?_⟩
              · omega
              · omega
          · try simp only [br] at hc94
            refine Run.seq ?_
            refine Run.drawT [] (m := 12) (by kernel_rfl) rfl ?_
            intro w_211 K_212
            replace hO_20 := hO_20.ext K_212
            replace hO_21 := hO_21.ext K_212
            replace hb_35 := hb_35.ext K_212
            replace K0 := K0.ext K_212
            refine ⟨fun w' => Blk w' b_32 [.int .i64 ((o).op), .int .i64 ((o).now), .slice ((o).peers.a) ((o).peers.len) ((o).peers.cap), .int .i64 ((o).kind), .int .i64 ((o).frm), .int .i64 ((o).req), .int .i64 ((o).owner), .int .i64 ((o).n)] 65 ∧ True, ?_⟩
            refine RT.takeP (v := .pointer (some ⟨b_1, 0, none⟩)) 0 rfl (by kernel_rfl) (.inr ⟨hb_35, trivial⟩) (fun _ => (x_moveP rfl)) ?_
            refine RT.take (v := .agg #[.int .i64 ((o).op), .int .i64 ((o).now), .slice ((o).peers.a) ((o).peers.len) ((o).peers.cap), .int .i64 ((o).kind), .int .i64 ((o).frm), .int .i64 ((o).req), .int .i64 ((o).owner), .int .i64 ((o).n)]) 1 rfl (by kernel_rfl) ⟨hb_35, trivial⟩ (by rintro _ ⟨hb_35, -⟩; exact (x_lds (cs := #[.int .i64 ((o).op), .int .i64 ((o).now), .slice ((o).peers.a) ((o).peers.len) ((o).peers.cap), .int .i64 ((o).kind), .int .i64 ((o).frm), .int .i64 ((o).req), .int .i64 ((o).owner), .int .i64 ((o).n)]) ty65 rfl rfl (hb_35.cl.drop 0 8))) ?_
            refine RT.takeP (v := .int .i64 (n)) 2 rfl (by kernel_rfl) (.inr ⟨hb_35, trivial⟩) (fun _ => (x_moveI rfl)) ?_
            refine RT.takeP (v := .pointer (some ⟨b_32, 1, none⟩)) 4 rfl (by kernel_rfl) (.inr ⟨hb_35, trivial⟩) (fun _ => (x_fld (o' := 1) Try.underlying65 rfl ty3 rfl rfl rfl)) ?_
            refine RT.take (v := .int .i64 ((o).now)) 5 rfl (by kernel_rfl) ⟨hb_35, trivial⟩ (by rintro _ ⟨hb_35, -⟩; exact (x_ld (v := .int .i64 ((o).now)) ty3 rfl rfl (hb_35.cl.field (i := 1) rfl))) ?_
            refine RT.st 3 rfl (by kernel_rfl) rfl <| St1.call (vals := [.agg #[.int .i64 ((o).op), .int .i64 ((o).now), .slice ((o).peers.a) ((o).peers.len) ((o).peers.cap), .int .i64 ((o).kind), .int .i64 ((o).frm), .int .i64 ((o).req), .int .i64 ((o).owner), .int .i64 ((o).n)], .int .i64 (n)]) en27 rfl (msg_ o n _) ?_
            rintro _ w_213 ⟨rfl, K_214⟩
            replace hO_20 := hO_20.ext K_214
            replace hO_21 := hO_21.ext K_214
            replace hb_35 := hb_35.ext K_214
            replace K0 := K0.ext K_214
            refine ⟨.inr ⟨hb_35, trivial⟩, ?_⟩
            refine RT.st 6 rfl (by kernel_rfl) rfl <| St1.call (vals := [.pointer (some ⟨b_1, 0, none⟩), .agg #[.int .i64 ((msgOf o n).kind), .int .i64 ((msgOf o n).frm), .int .i64 ((msgOf o n).to), .int .i64 ((msgOf o n).req), .string ((msgOf o n).key), .slice ((msgOf o n).entries.a) ((msgOf o n).entries.len) ((msgOf o n).entries.cap), .slice ((msgOf o n).marks.a) ((msgOf o n).marks.len) ((msgOf o n).marks.cap), .slice ((msgOf o n).cloud.a) ((msgOf o n).cloud.len) ((msgOf o n).cloud.cap), .int .i64 ((msgOf o n).owner), .int .i64 ((msgOf o n).part), .int .i64 ((msgOf o n).n), .int .i64 ((msgOf o n).rparts), .int .i64 ((msgOf o n).rcopies), .int .i64 ((msgOf o n).rspots), .slice ((msgOf o n).members.a) ((msgOf o n).members.len) ((msgOf o n).members.cap), .slice ((msgOf o n).peers.a) ((msgOf o n).peers.len) ((msgOf o n).peers.cap), .slice ((msgOf o n).sums.a) ((msgOf o n).sums.len) ((msgOf o n).sums.cap)], .int .i64 ((o).now)]) en26 rfl (on_ _ _ _ T (msgOf o n) ((o).now) _ hO_20 (by omega) (by omega)) ?_
            rintro _ w_217 ⟨al_215, cl_216, a_221, c_222, a_223, c_224, rfl, hT_218, ho_225, ho_226, hg_227, hg_228, pr_229, pr_230, pr_231, hm_219, K_220⟩
            have pr_232 : ∀ q_, own a_221 q_ → ¬ tabS b_1 alb q_ := apartNew hg_227 hO_20.own_lt
            have pr_233 : ∀ q_, own a_221 q_ → ¬ rtabS b_8 aLb aPb q_ := apartNew hg_227 hO_21.own_lt
            have pr_234 : ¬ own a_221 b_32 := notNew hg_227 hb_35.lt
            have pg_235 : ∀ q_, own a_221 q_ → w.heap.size ≤ q_ := fun q_ h => Nat.le_trans K0.size (hg_227 q_ h)
            have pr_236 : ∀ q_, own a_223 q_ → ¬ tabS b_1 alb q_ := apartNew hg_228 hO_20.own_lt
            have pr_237 : ∀ q_, own a_223 q_ → ¬ rtabS b_8 aLb aPb q_ := apartNew hg_228 hO_21.own_lt
            have pr_238 : ¬ own a_223 b_32 := notNew hg_228 hb_35.lt
            have pg_239 : ∀ q_, own a_223 q_ → w.heap.size ≤ q_ := fun q_ h => Nat.le_trans K0.size (hg_228 q_ h)
            have pr_240 : ∀ q_, tabS b_1 al_215 q_ → ¬ rtabS b_8 aLb aPb q_ := hm_219.apart pr_22 hO_21.own_lt
            have pr_241 : ¬ tabS b_1 al_215 b_32 := hm_219.not pr_38 hb_35.lt
            have pg_242 : ∀ q_, tabS b_1 al_215 q_ → w.heap.size ≤ q_ := hm_219.ge pr_23 K0.size
            replace hO_21 := hO_21.keepO K_220 (fun q_ h1 h2 => pr_22 q_ h2 h1)
            replace hb_35 := hb_35.keep K_220 pr_38
            replace K0 := K0.new K_220 pr_23
            clear hm_219
            clear hg_227 hg_228
            refine ⟨.inr ⟨hb_35, trivial⟩, ?_⟩
            refine RT.takeP (v := .tuple #[.slice (a_221) (((on T (msgOf o n) ((o).now)).out).length) (c_222), .slice (a_223) (((on T (msgOf o n) ((o).now)).told).length) (c_224)]) 7 rfl (by kernel_rfl) (.inr ⟨hb_35, trivial⟩) (fun _ => (x_moveT rfl)) ?_
            refine RT.takeP (v := .slice (a_221) (((on T (msgOf o n) ((o).now)).out).length) (c_222)) 8 rfl (by kernel_rfl) (.inr ⟨hb_35, trivial⟩) (fun _ => (x_extract rfl rfl)) ?_
            refine RT.takeP (v := .slice (a_223) (((on T (msgOf o n) ((o).now)).told).length) (c_224)) 9 rfl (by kernel_rfl) (.inr ⟨hb_35, trivial⟩) (fun _ => (x_extract rfl rfl)) ?_
            refine RT.takeP (v := .slice (a_221) (((on T (msgOf o n) ((o).now)).out).length) (c_222)) 10 rfl (by kernel_rfl) (.inr ⟨hb_35, trivial⟩) (fun _ => (x_assignSl rfl)) ?_
            refine RT.takeP (v := .slice (a_223) (((on T (msgOf o n) ((o).now)).told).length) (c_224)) 11 rfl (by kernel_rfl) (.inr ⟨hb_35, trivial⟩) (fun _ => (x_assignSl rfl)) ?_
            refine RT.done (by kernel_rfl) ?_
            refine Run.drawT [] (m := 12) (by kernel_rfl) rfl ?_
            intro w_243 K_244
            replace hO_21 := hO_21.ext K_244
            replace hb_35 := hb_35.ext K_244
            replace hT_218 := hT_218.ext K_244
            replace ho_225 := ho_225.ext K_244
            replace ho_226 := ho_226.ext K_244
            replace K0 := K0.ext K_244
            refine ⟨fun w' => Blk w' b_32 [.int .i64 ((o).op), .int .i64 ((o).now), .slice ((o).peers.a) ((o).peers.len) ((o).peers.cap), .int .i64 ((o).kind), .int .i64 ((o).frm), .int .i64 ((o).req), .int .i64 ((o).owner), .int .i64 ((o).n)] 65 ∧ True, ?_⟩
            refine RT.takeP (v := .pointer (some ⟨b_8, 0, none⟩)) 0 rfl (by kernel_rfl) (.inr ⟨hb_35, trivial⟩) (fun _ => (x_moveP rfl)) ?_
            refine RT.take (v := .agg #[.int .i64 ((o).op), .int .i64 ((o).now), .slice ((o).peers.a) ((o).peers.len) ((o).peers.cap), .int .i64 ((o).kind), .int .i64 ((o).frm), .int .i64 ((o).req), .int .i64 ((o).owner), .int .i64 ((o).n)]) 1 rfl (by kernel_rfl) ⟨hb_35, trivial⟩ (by rintro _ ⟨hb_35, -⟩; exact (x_lds (cs := #[.int .i64 ((o).op), .int .i64 ((o).now), .slice ((o).peers.a) ((o).peers.len) ((o).peers.cap), .int .i64 ((o).kind), .int .i64 ((o).frm), .int .i64 ((o).req), .int .i64 ((o).owner), .int .i64 ((o).n)]) ty65 rfl rfl (hb_35.cl.drop 0 8))) ?_
            refine RT.takeP (v := .int .i64 (n)) 2 rfl (by kernel_rfl) (.inr ⟨hb_35, trivial⟩) (fun _ => (x_moveI rfl)) ?_
            refine RT.takeP (v := .pointer (some ⟨b_32, 1, none⟩)) 4 rfl (by kernel_rfl) (.inr ⟨hb_35, trivial⟩) (fun _ => (x_fld (o' := 1) Try.underlying65 rfl ty3 rfl rfl rfl)) ?_
            refine RT.take (v := .int .i64 ((o).now)) 5 rfl (by kernel_rfl) ⟨hb_35, trivial⟩ (by rintro _ ⟨hb_35, -⟩; exact (x_ld (v := .int .i64 ((o).now)) ty3 rfl rfl (hb_35.cl.field (i := 1) rfl))) ?_
            refine RT.st 3 rfl (by kernel_rfl) rfl <| St1.call (vals := [.agg #[.int .i64 ((o).op), .int .i64 ((o).now), .slice ((o).peers.a) ((o).peers.len) ((o).peers.cap), .int .i64 ((o).kind), .int .i64 ((o).frm), .int .i64 ((o).req), .int .i64 ((o).owner), .int .i64 ((o).n)], .int .i64 (n)]) en27 rfl (msg_ o n _) ?_
            rintro _ w_245 ⟨rfl, K_246⟩
            replace hO_21 := hO_21.ext K_246
            replace hb_35 := hb_35.ext K_246
            replace hT_218 := hT_218.ext K_246
            replace ho_225 := ho_225.ext K_246
            replace ho_226 := ho_226.ext K_246
            replace K0 := K0.ext K_246
            refine ⟨.inr ⟨hb_35, trivial⟩, ?_⟩
            refine RT.st 6 rfl (by kernel_rfl) rfl <| St1.call (vals := [.pointer (some ⟨b_8, 0, none⟩), .agg #[.int .i64 ((msgOf o n).kind), .int .i64 ((msgOf o n).frm), .int .i64 ((msgOf o n).to), .int .i64 ((msgOf o n).req), .string ((msgOf o n).key), .slice ((msgOf o n).entries.a) ((msgOf o n).entries.len) ((msgOf o n).entries.cap), .slice ((msgOf o n).marks.a) ((msgOf o n).marks.len) ((msgOf o n).marks.cap), .slice ((msgOf o n).cloud.a) ((msgOf o n).cloud.len) ((msgOf o n).cloud.cap), .int .i64 ((msgOf o n).owner), .int .i64 ((msgOf o n).part), .int .i64 ((msgOf o n).n), .int .i64 ((msgOf o n).rparts), .int .i64 ((msgOf o n).rcopies), .int .i64 ((msgOf o n).rspots), .slice ((msgOf o n).members.a) ((msgOf o n).members.len) ((msgOf o n).members.cap), .slice ((msgOf o n).peers.a) ((msgOf o n).peers.len) ((msgOf o n).peers.cap), .slice ((msgOf o n).sums.a) ((msgOf o n).sums.len) ((msgOf o n).sums.cap)], .int .i64 ((o).now)]) en35 rfl (onR_ _ _ _ _ _ T (msgOf o n) ((o).now) _ hO_21 (by omega) (by omega)) ?_
            rintro _ w_251 ⟨aL_247, cL_248, aP_249, cP_250, a_255, c_256, a_257, c_258, rfl, hR_252, ho_259, ho_260, hg_261, hg_262, pr_263, pr_264, pr_265, hm_253, K_254⟩
            have pr_266 : ∀ q_, own a_255 q_ → ¬ rtabS b_8 aLb aPb q_ := apartNew hg_261 hO_21.own_lt
            have pr_267 : ¬ own a_255 b_32 := notNew hg_261 hb_35.lt
            have pr_268 : ∀ q_, own a_255 q_ → ¬ tabS b_1 al_215 q_ := apartNew hg_261 hT_218.own_lt
            have pr_269 : ∀ q_, own a_255 q_ → ¬ own a_221 q_ := apartNew hg_261 ho_225.own_lt
            have pr_270 : ∀ q_, own a_255 q_ → ¬ own a_223 q_ := apartNew hg_261 ho_226.own_lt
            have pg_271 : ∀ q_, own a_255 q_ → w.heap.size ≤ q_ := fun q_ h => Nat.le_trans K0.size (hg_261 q_ h)
            have pr_272 : ∀ q_, own a_257 q_ → ¬ rtabS b_8 aLb aPb q_ := apartNew hg_262 hO_21.own_lt
            have pr_273 : ¬ own a_257 b_32 := notNew hg_262 hb_35.lt
            have pr_274 : ∀ q_, own a_257 q_ → ¬ tabS b_1 al_215 q_ := apartNew hg_262 hT_218.own_lt
            have pr_275 : ∀ q_, own a_257 q_ → ¬ own a_221 q_ := apartNew hg_262 ho_225.own_lt
            have pr_276 : ∀ q_, own a_257 q_ → ¬ own a_223 q_ := apartNew hg_262 ho_226.own_lt
            have pg_277 : ∀ q_, own a_257 q_ → w.heap.size ≤ q_ := fun q_ h => Nat.le_trans K0.size (hg_262 q_ h)
            have pr_278 : ¬ rtabS b_8 aL_247 aP_249 b_32 := hm_253.not pr_39 hb_35.lt
            have pr_279 : ∀ q_, rtabS b_8 aL_247 aP_249 q_ → ¬ tabS b_1 al_215 q_ := hm_253.apart (fun q_ h1 h2 => pr_240 q_ h2 h1) hT_218.own_lt
            have pr_280 : ∀ q_, rtabS b_8 aL_247 aP_249 q_ → ¬ own a_221 q_ := hm_253.apart (fun q_ h1 h2 => pr_233 q_ h2 h1) ho_225.own_lt
            have pr_281 : ∀ q_, rtabS b_8 aL_247 aP_249 q_ → ¬ own a_223 q_ := hm_253.apart (fun q_ h1 h2 => pr_237 q_ h2 h1) ho_226.own_lt
            have pg_282 : ∀ q_, rtabS b_8 aL_247 aP_249 q_ → w.heap.size ≤ q_ := hm_253.ge pr_24 K0.size
            replace hb_35 := hb_35.keep K_254 pr_39
            replace hT_218 := hT_218.keepO K_254 pr_240
            replace ho_225 := ho_225.keepO K_254 pr_233
            replace ho_226 := ho_226.keepO K_254 pr_237
            replace K0 := K0.new K_254 pr_24
            clear hm_253 hg_261 hg_262
            refine ⟨.inr ⟨hb_35, trivial⟩, ?_⟩
            refine RT.takeP (v := .tuple #[.slice (a_255) (((on T (msgOf o n) ((o).now)).out).length) (c_256), .slice (a_257) (((on T (msgOf o n) ((o).now)).told).length) (c_258)]) 7 rfl (by kernel_rfl) (.inr ⟨hb_35, trivial⟩) (fun _ => (x_moveT rfl)) ?_
            refine RT.takeP (v := .slice (a_255) (((on T (msgOf o n) ((o).now)).out).length) (c_256)) 8 rfl (by kernel_rfl) (.inr ⟨hb_35, trivial⟩) (fun _ => (x_extract rfl rfl)) ?_
            refine RT.takeP (v := .slice (a_257) (((on T (msgOf o n) ((o).now)).told).length) (c_258)) 9 rfl (by kernel_rfl) (.inr ⟨hb_35, trivial⟩) (fun _ => (x_extract rfl rfl)) ?_
            refine RT.takeP (v := .slice (a_255) (((on T (msgOf o n) ((o).now)).out).length) (c_256)) 10 rfl (by kernel_rfl) (.inr ⟨hb_35, trivial⟩) (fun _ => (x_assignSl rfl)) ?_
            refine RT.takeP (v := .slice (a_257) (((on T (msgOf o n) ((o).now)).told).length) (c_258)) 11 rfl (by kernel_rfl) (.inr ⟨hb_35, trivial⟩) (fun _ => (x_assignSl rfl)) ?_
            refine RT.done (by kernel_rfl) ?_
            obtain ⟨_, hb1, hb2, hb3⟩ := on_ok (m := msgOf o n) (t := o.now) hok (by omega)
            refine Run.inBlock ?_
            refine Run.seq ?_
            refine Run.seq ?_
            refine Run.region ?_
            refine RL.val (x_moveSl rfl) ?_
            refine RL.val (x_moveSl rfl) ?_
            refine RL.st rfl <| St1.call (vals := [.slice (a_221) (((on T (msgOf o n) ((o).now)).out).length) (c_222), .slice (a_255) (((on T (msgOf o n) ((o).now)).out).length) (c_256)]) en36 rfl (same_ _ ((on T (msgOf o n) ((o).now)).out) _ _ _ _ ho_225.sl ho_259.sl (by first | omega | (simp only [List.length_nil]; omega)) (by first | exact bare_nil | exact bare_tick _ _ | exact bare_on _ _ _)) ?_
            rintro _ w_283 ⟨rfl, K_284⟩
            replace hb_35 := hb_35.ext K_284
            replace hT_218 := hT_218.ext K_284
            replace ho_225 := ho_225.ext K_284
            replace ho_226 := ho_226.ext K_284
            replace hR_252 := hR_252.ext K_284
            replace ho_259 := ho_259.ext K_284
            replace ho_260 := ho_260.ext K_284
            replace K0 := K0.ext K_284
            refine RL.val (x_not rfl) ?_
            refine RL.val (x_moveB rfl) ?_
            refine RL.gst (wantedF1 rfl rfl rfl rfl) <| St1.val (x_moveSl rfl) ?_
            refine RL.gst (wantedF1 rfl rfl rfl rfl) <| St1.val (x_moveSl rfl) ?_
            refine RL.gst (wantedF1 rfl rfl rfl rfl) <| St1.call (vals := [.slice (a_223) (((on T (msgOf o n) ((o).now)).told).length) (c_224), .slice (a_257) (((on T (msgOf o n) ((o).now)).told).length) (c_258)]) en25 rfl (equalT_peer _ ((on T (msgOf o n) ((o).now)).told) _ _ _ _ ho_226.sl ho_260.sl (by omega)) ?_
            rintro _ w_285 ⟨rfl, K_286⟩
            replace hb_35 := hb_35.ext K_286
            replace hT_218 := hT_218.ext K_286
            replace ho_225 := ho_225.ext K_286
            replace ho_226 := ho_226.ext K_286
            replace hR_252 := hR_252.ext K_286
            replace ho_259 := ho_259.ext K_286
            replace ho_260 := ho_260.ext K_286
            replace K0 := K0.ext K_286
            refine RL.gst (wantedF1 rfl rfl rfl rfl) <| St1.val (x_not rfl) ?_
            refine RL.val (x_orF rfl rfl rfl) ?_
            refine RL.val (x_moveB rfl) ?_
            refine RL.gst (wantedF1 rfl rfl rfl rfl) <| St1.val (x_moveP rfl) ?_
            refine RL.gst (wantedF1 rfl rfl rfl rfl) <| St1.val (x_moveP rfl) ?_
            refine RL.gst (wantedF1 rfl rfl rfl rfl) <| St1.call (vals := [.pointer (some ⟨b_1, 0, none⟩), .pointer (some ⟨b_8, 0, none⟩)]) en37 rfl (alike_ _ _ _ _ _ _ _ _ ((on T (msgOf o n) ((o).now)).T) _ hT_218 hR_252) ?_
            rintro _ w_287 ⟨rfl, K_288⟩
            replace hb_35 := hb_35.ext K_288
            replace hT_218 := hT_218.ext K_288
            replace ho_225 := ho_225.ext K_288
            replace ho_226 := ho_226.ext K_288
            replace hR_252 := hR_252.ext K_288
            replace ho_259 := ho_259.ext K_288
            replace ho_260 := ho_260.ext K_288
            replace K0 := K0.ext K_288
            refine RL.gst (wantedF1 rfl rfl rfl rfl) <| St1.val (x_not rfl) ?_
            refine RL.val (x_orF rfl rfl rfl) ?_
            refine RL.nil ?_
            refine Run.condF rfl ?_
            refine Run.skip ?_
            refine Run.seq ?_
            refine Run.region ?_
            refine RL.val (x_moveSl rfl) ?_
            refine RL.val (x_lenSl Try.underlying32 rfl) ?_
            refine RL.val (x_moveI rfl) ?_
            refine RL.nil ?_
            refine Run.block ?_
            refine Run.loop (ι := Nat) (fun j ρ' w' => ∃ a9 : Option Addr, ∃ c9 : Nat, ∃ L9 : List Peer, Holds ρ' [(0, .int .i64 (n)), (5, .pointer (some ⟨b_1, 0, none⟩)), (7, .pointer (some ⟨b_8, 0, none⟩)), (13, .slice (a9) (((on T (msgOf o n) ((o).now)).told).length) (c9)), (40, .slice (as0) (script.length) (cs0)), (41, .int .i64 (((script.length : Nat) : Int))), (42, .int .i64 (((i : Nat) : Int))), (43, .bool (decide (((i : Nat) : Int) < ((script.length : Nat) : Int)))), (128, .int .i64 (((((on T (msgOf o n) ((o).now)).told).length : Nat) : Int))), (129, .int .i64 (((j : Nat) : Int)))] ∧ Ext w w' ∧ (Blk w' b_32 [.int .i64 ((o).op), .int .i64 ((o).now), .slice ((o).peers.a) ((o).peers.len) ((o).peers.cap), .int .i64 ((o).kind), .int .i64 ((o).frm), .int .i64 ((o).req), .int .i64 ((o).owner), .int .i64 ((o).n)] 65) ∧ (TabAt w' b_1 al_215 cl_216 ((on T (msgOf o n) ((o).now)).T)) ∧ (OwnSl w' 61 (a_221) (c_222) ((on T (msgOf o n) ((o).now)).out)) ∧ (RTabAt w' b_8 aL_247 cL_248 aP_249 cP_250 ((on T (msgOf o n) ((o).now)).T)) ∧ (OwnSl w' 61 (a_255) (c_256) ((on T (msgOf o n) ((o).now)).out)) ∧ (OwnSl w' 23 (a_257) (c_258) ((on T (msgOf o n) ((o).now)).told)) ∧ (OwnSl w' 23 a9 c9 (L9)) ∧ (¬ own a9 b_32) ∧ (∀ q_, own a9 q_ → ¬ tabS b_1 al_215 q_) ∧ (∀ q_, own a9 q_ → ¬ own a_221 q_) ∧ (∀ q_, own a9 q_ → ¬ rtabS b_8 aL_247 aP_249 q_) ∧ (∀ q_, own a9 q_ → ¬ own a_255 q_) ∧ (∀ q_, own a9 q_ → ¬ own a_257 q_) ∧ (∀ q_, own a9 q_ → w.heap.size ≤ q_) ∧ (j ≤ ((on T (msgOf o n) ((o).now)).told).length) ∧ (L9.length = ((on T (msgOf o n) ((o).now)).told).length)) (fun j => ((on T (msgOf o n) ((o).now)).told).length - j) 0 ?_ ?_
            · refine ⟨_, _, _, ⟨rfl, rfl, rfl, rfl, rfl, rfl, rfl, rfl, rfl, rfl, trivial⟩, K0, hb_35, hT_218, ho_225, hR_252, ho_259, ho_260, ho_226, pr_238, pr_230, (fun q_ h1 h2 => pr_231 q_ h2 h1), (fun q_ h1 h2 => pr_281 q_ h2 h1), (fun q_ h1 h2 => pr_270 q_ h2 h1), (fun q_ h1 h2 => pr_276 q_ h2 h1), pg_239, ?_, ?_⟩
              · omega
              · rfl
            clear hb_35 hT_218 ho_225 ho_226 hR_252 ho_259 ho_260
            clear K0
            rintro j ρ_299 w_289 ⟨a9, c9, L9, hH_290, K0, hb_35, hT_218, ho_225, hR_252, ho_259, ho_260, ho_291, pr_292, pr_293, pr_294, pr_295, pr_296, pr_297, pr_298, hj, hL9⟩ ih4
            obtain ⟨ρ₀, rfl⟩ := hH_290.ex
            clear hH_290
            refine Run.seq ?_
            refine Run.region ?_
            refine RL.val (x_ltI rfl rfl) ?_
            refine RL.nil ?_
            refine Run.seq ?_
            refine Run.cond rfl (fun hc130 => ?_) (fun hc130 => ?_)
            · try simp only [br] at hc130
              refine Run.skip ?_
              refine Run.seq ?_
              refine Run.block ?_
              refine Run.seq ?_
              refine Run.region ?_
              refine RL.val (x_moveI rfl) ?_
              refine RL.val (x_assignI rfl) ?_
              refine RL.nil ?_
              refine Run.region ?_
              refine RL.val (x_moveSl rfl) ?_
              refine RL.val (x_moveI rfl) ?_
              obtain ⟨b_300, o_301, x_304, hx_305, ha_302, hc_303⟩ := ho_291.sl.el (i := j) (by omega)
              refine RL.val (x_idxN Try.underlying32 ty23 rfl rfl ha_302 (by omega)) ?_
              refine RL.val (x_fld (o' := o_301 + j * 3 + 0) Try.underlying23 rfl ty3 rfl rfl rfl) ?_
              refine RL.st rfl <| St1.storeEl (v := .int .i64 (99)) (off := 0) (i := j) (⟨99, x_304.inc, x_304.status⟩ : Peer) ty3 rfl rfl rfl (by simp [Value.cells, Value.oneCell']) ho_291 ha_302 hx_305 rfl (by decide) rfl ?_
              intro w_306 ho_308 K_307
              clear hc_303
              replace hb_35 := hb_35.keep K_307 pr_292
              replace hT_218 := hT_218.keepO K_307 (fun q_ h1 h2 => pr_293 q_ h2 h1)
              replace ho_225 := ho_225.keepO K_307 (fun q_ h1 h2 => pr_294 q_ h2 h1)
              replace hR_252 := hR_252.keepO K_307 (fun q_ h1 h2 => pr_295 q_ h2 h1)
              replace ho_259 := ho_259.keepO K_307 (fun q_ h1 h2 => pr_296 q_ h2 h1)
              replace ho_260 := ho_260.keepO K_307 (fun q_ h1 h2 => pr_297 q_ h2 h1)
              replace K0 := K0.new K_307 pr_298
              replace ho_291 := ho_308
              clear ho_308
              refine RL.nil ?_
              refine Run.inBlock ?_
              refine Run.region ?_
              refine RL.val (litI (c := ((j + 1 : Nat) : Int)) (x_add rfl rfl (by omega) (by omega)) rfl) ?_
              refine RL.val (x_moveI rfl) ?_
              refine RL.nil ?_
              refine ih4 (j + 1) _ _ ?_ (by omega)
              refine ⟨_, _, _, ⟨rfl, rfl, rfl, rfl, rfl, rfl, rfl, rfl, rfl, rfl, trivial⟩, K0, hb_35, hT_218, ho_225, hR_252, ho_259, ho_260, ho_291, pr_292, pr_293, pr_294, pr_295, pr_296, pr_297, pr_298, ?_, ?_⟩
              · omega
              · simpa using hL9
            · try simp only [br] at hc130
              refine Run.exit rfl ?_
              refine Run.inBlock ?_
              refine Run.region ?_
              refine RL.val (litI (c := ((i + 1 : Nat) : Int)) (x_add rfl rfl (by omega) (by omega)) rfl) ?_
              refine RL.val (x_moveI rfl) ?_
              refine RL.nil ?_
              refine ih1 (i + 1) _ _ ?_ (by omega)
              refine ⟨_, _, _, _, _, _, _, ⟨rfl, rfl, rfl, rfl, rfl, rfl, trivial⟩, K0, hT_218, hR_252, (fun q_ h1 h2 => pr_279 q_ h2 h1), pg_242, pg_282, ?_, ?_⟩
              · omega
              · omega
        · try simp only [br] at hc94
          refine Run.region ?_
          refine RL.val (x_eqI rfl rfl) ?_
          refine RL.val (x_assignB rfl) ?_
          refine RL.nil ?_
          refine Run.cond rfl (fun hc94 => ?_) (fun hc94 => ?_)
          · try simp only [br] at hc94
            refine Run.seq ?_
            refine Run.region ?_
            refine RL.val (x_moveP rfl) ?_
            refine RL.val (x_fld (o' := 1) Try.underlying65 rfl ty3 rfl rfl rfl) ?_
            refine RL.val (x_ld (v := .int .i64 ((o).now)) ty3 rfl rfl (hb_35.cl.field (i := 1) rfl)) ?_
            refine RL.st rfl <| St1.call (vals := [.pointer (some ⟨b_1, 0, none⟩), .int .i64 ((o).now)]) en16 rfl (tick_ _ _ _ T ((o).now) _ hO_20 (by omega) (by omega)) ?_
            rintro _ w_311 ⟨al_309, cl_310, a_315, c_316, a_317, c_318, rfl, hT_312, ho_319, ho_320, hg_321, hg_322, pr_323, pr_324, pr_325, hm_313, K_314⟩
            have pr_326 : ∀ q_, own a_315 q_ → ¬ tabS b_1 alb q_ := apartNew hg_321 hO_20.own_lt
            have pr_327 : ∀ q_, own a_315 q_ → ¬ rtabS b_8 aLb aPb q_ := apartNew hg_321 hO_21.own_lt
            have pr_328 : ¬ own a_315 b_32 := notNew hg_321 hb_35.lt
            have pg_329 : ∀ q_, own a_315 q_ → w.heap.size ≤ q_ := fun q_ h => Nat.le_trans K0.size (hg_321 q_ h)
            have pr_330 : ∀ q_, own a_317 q_ → ¬ tabS b_1 alb q_ := apartNew hg_322 hO_20.own_lt
            have pr_331 : ∀ q_, own a_317 q_ → ¬ rtabS b_8 aLb aPb q_ := apartNew hg_322 hO_21.own_lt
            have pr_332 : ¬ own a_317 b_32 := notNew hg_322 hb_35.lt
            have pg_333 : ∀ q_, own a_317 q_ → w.heap.size ≤ q_ := fun q_ h => Nat.le_trans K0.size (hg_322 q_ h)
            have pr_334 : ∀ q_, tabS b_1 al_309 q_ → ¬ rtabS b_8 aLb aPb q_ := hm_313.apart pr_22 hO_21.own_lt
            have pr_335 : ¬ tabS b_1 al_309 b_32 := hm_313.not pr_38 hb_35.lt
            have pg_336 : ∀ q_, tabS b_1 al_309 q_ → w.heap.size ≤ q_ := hm_313.ge pr_23 K0.size
            replace hO_21 := hO_21.keepO K_314 (fun q_ h1 h2 => pr_22 q_ h2 h1)
            replace hb_35 := hb_35.keep K_314 pr_38
            replace K0 := K0.new K_314 pr_23
            clear hm_313
            clear hg_321 hg_322
            refine RL.val (x_moveT rfl) ?_
            refine RL.val (x_extract rfl rfl) ?_
            refine RL.val (x_extract rfl rfl) ?_
            refine RL.val (x_assignSl rfl) ?_
            refine RL.val (x_assignSl rfl) ?_
            refine RL.nil ?_
            refine Run.region ?_
            refine RL.val (x_moveP rfl) ?_
            refine RL.val (x_fld (o' := 1) Try.underlying65 rfl ty3 rfl rfl rfl) ?_
            refine RL.val (x_ld (v := .int .i64 ((o).now)) ty3 rfl rfl (hb_35.cl.field (i := 1) rfl)) ?_
            refine RL.st rfl <| St1.call (vals := [.pointer (some ⟨b_8, 0, none⟩), .int .i64 ((o).now)]) en34 rfl (tickR_ _ _ _ _ _ T ((o).now) _ hO_21 (by omega) (by omega)) ?_
            rintro _ w_341 ⟨aL_337, cL_338, aP_339, cP_340, a_345, c_346, a_347, c_348, rfl, hR_342, ho_349, ho_350, hg_351, hg_352, pr_353, pr_354, pr_355, hm_343, K_344⟩
            have pr_356 : ∀ q_, own a_345 q_ → ¬ rtabS b_8 aLb aPb q_ := apartNew hg_351 hO_21.own_lt
            have pr_357 : ¬ own a_345 b_32 := notNew hg_351 hb_35.lt
            have pr_358 : ∀ q_, own a_345 q_ → ¬ tabS b_1 al_309 q_ := apartNew hg_351 hT_312.own_lt
            have pr_359 : ∀ q_, own a_345 q_ → ¬ own a_315 q_ := apartNew hg_351 ho_319.own_lt
            have pr_360 : ∀ q_, own a_345 q_ → ¬ own a_317 q_ := apartNew hg_351 ho_320.own_lt
            have pg_361 : ∀ q_, own a_345 q_ → w.heap.size ≤ q_ := fun q_ h => Nat.le_trans K0.size (hg_351 q_ h)
            have pr_362 : ∀ q_, own a_347 q_ → ¬ rtabS b_8 aLb aPb q_ := apartNew hg_352 hO_21.own_lt
            have pr_363 : ¬ own a_347 b_32 := notNew hg_352 hb_35.lt
            have pr_364 : ∀ q_, own a_347 q_ → ¬ tabS b_1 al_309 q_ := apartNew hg_352 hT_312.own_lt
            have pr_365 : ∀ q_, own a_347 q_ → ¬ own a_315 q_ := apartNew hg_352 ho_319.own_lt
            have pr_366 : ∀ q_, own a_347 q_ → ¬ own a_317 q_ := apartNew hg_352 ho_320.own_lt
            have pg_367 : ∀ q_, own a_347 q_ → w.heap.size ≤ q_ := fun q_ h => Nat.le_trans K0.size (hg_352 q_ h)
            have pr_368 : ¬ rtabS b_8 aL_337 aP_339 b_32 := hm_343.not pr_39 hb_35.lt
            have pr_369 : ∀ q_, rtabS b_8 aL_337 aP_339 q_ → ¬ tabS b_1 al_309 q_ := hm_343.apart (fun q_ h1 h2 => pr_334 q_ h2 h1) hT_312.own_lt
            have pr_370 : ∀ q_, rtabS b_8 aL_337 aP_339 q_ → ¬ own a_315 q_ := hm_343.apart (fun q_ h1 h2 => pr_327 q_ h2 h1) ho_319.own_lt
            have pr_371 : ∀ q_, rtabS b_8 aL_337 aP_339 q_ → ¬ own a_317 q_ := hm_343.apart (fun q_ h1 h2 => pr_331 q_ h2 h1) ho_320.own_lt
            have pg_372 : ∀ q_, rtabS b_8 aL_337 aP_339 q_ → w.heap.size ≤ q_ := hm_343.ge pr_24 K0.size
            replace hb_35 := hb_35.keep K_344 pr_39
            replace hT_312 := hT_312.keepO K_344 pr_334
            replace ho_319 := ho_319.keepO K_344 pr_327
            replace ho_320 := ho_320.keepO K_344 pr_331
            replace K0 := K0.new K_344 pr_24
            clear hm_343 hg_351 hg_352
            refine RL.val (x_moveT rfl) ?_
            refine RL.val (x_extract rfl rfl) ?_
            refine RL.val (x_extract rfl rfl) ?_
            refine RL.val (x_assignSl rfl) ?_
            refine RL.val (x_assignSl rfl) ?_
            refine RL.nil ?_
            obtain ⟨_, hb1, hb2, hb3⟩ := tick_ok (t := o.now) hok (by omega)
            refine Run.inBlock ?_
            refine Run.seq ?_
            refine Run.seq ?_
            refine Run.region ?_
            refine RL.val (x_moveSl rfl) ?_
            refine RL.val (x_moveSl rfl) ?_
            refine RL.st rfl <| St1.call (vals := [.slice (a_315) (((tick T ((o).now)).out).length) (c_316), .slice (a_345) (((tick T ((o).now)).out).length) (c_346)]) en36 rfl (same_ _ ((tick T ((o).now)).out) _ _ _ _ ho_319.sl ho_349.sl (by first | omega | (simp only [List.length_nil]; omega)) (by first | exact bare_nil | exact bare_tick _ _ | exact bare_on _ _ _)) ?_
            rintro _ w_373 ⟨rfl, K_374⟩
            replace hb_35 := hb_35.ext K_374
            replace hT_312 := hT_312.ext K_374
            replace ho_319 := ho_319.ext K_374
            replace ho_320 := ho_320.ext K_374
            replace hR_342 := hR_342.ext K_374
            replace ho_349 := ho_349.ext K_374
            replace ho_350 := ho_350.ext K_374
            replace K0 := K0.ext K_374
            refine RL.val (x_not rfl) ?_
            refine RL.val (x_moveB rfl) ?_
            refine RL.gst (wantedF1 rfl rfl rfl rfl) <| St1.val (x_moveSl rfl) ?_
            refine RL.gst (wantedF1 rfl rfl rfl rfl) <| St1.val (x_moveSl rfl) ?_
            refine RL.gst (wantedF1 rfl rfl rfl rfl) <| St1.call (vals := [.slice (a_317) (((tick T ((o).now)).told).length) (c_318), .slice (a_347) (((tick T ((o).now)).told).length) (c_348)]) en25 rfl (equalT_peer _ ((tick T ((o).now)).told) _ _ _ _ ho_320.sl ho_350.sl (by omega)) ?_
            rintro _ w_375 ⟨rfl, K_376⟩
            replace hb_35 := hb_35.ext K_376
            replace hT_312 := hT_312.ext K_376
            replace ho_319 := ho_319.ext K_376
            replace ho_320 := ho_320.ext K_376
            replace hR_342 := hR_342.ext K_376
            replace ho_349 := ho_349.ext K_376
            replace ho_350 := ho_350.ext K_376
            replace K0 := K0.ext K_376
            refine RL.gst (wantedF1 rfl rfl rfl rfl) <| St1.val (x_not rfl) ?_
            refine RL.val (x_orF rfl rfl rfl) ?_
            refine RL.val (x_moveB rfl) ?_
            refine RL.gst (wantedF1 rfl rfl rfl rfl) <| St1.val (x_moveP rfl) ?_
            refine RL.gst (wantedF1 rfl rfl rfl rfl) <| St1.val (x_moveP rfl) ?_
            refine RL.gst (wantedF1 rfl rfl rfl rfl) <| St1.call (vals := [.pointer (some ⟨b_1, 0, none⟩), .pointer (some ⟨b_8, 0, none⟩)]) en37 rfl (alike_ _ _ _ _ _ _ _ _ ((tick T ((o).now)).T) _ hT_312 hR_342) ?_
            rintro _ w_377 ⟨rfl, K_378⟩
            replace hb_35 := hb_35.ext K_378
            replace hT_312 := hT_312.ext K_378
            replace ho_319 := ho_319.ext K_378
            replace ho_320 := ho_320.ext K_378
            replace hR_342 := hR_342.ext K_378
            replace ho_349 := ho_349.ext K_378
            replace ho_350 := ho_350.ext K_378
            replace K0 := K0.ext K_378
            refine RL.gst (wantedF1 rfl rfl rfl rfl) <| St1.val (x_not rfl) ?_
            refine RL.val (x_orF rfl rfl rfl) ?_
            refine RL.nil ?_
            refine Run.condF rfl ?_
            refine Run.skip ?_
            refine Run.seq ?_
            refine Run.region ?_
            refine RL.val (x_moveSl rfl) ?_
            refine RL.val (x_lenSl Try.underlying32 rfl) ?_
            refine RL.val (x_moveI rfl) ?_
            refine RL.nil ?_
            refine Run.block ?_
            refine Run.loop (ι := Nat) (fun j ρ' w' => ∃ a9 : Option Addr, ∃ c9 : Nat, ∃ L9 : List Peer, Holds ρ' [(0, .int .i64 (n)), (5, .pointer (some ⟨b_1, 0, none⟩)), (7, .pointer (some ⟨b_8, 0, none⟩)), (13, .slice (a9) (((tick T ((o).now)).told).length) (c9)), (40, .slice (as0) (script.length) (cs0)), (41, .int .i64 (((script.length : Nat) : Int))), (42, .int .i64 (((i : Nat) : Int))), (43, .bool (decide (((i : Nat) : Int) < ((script.length : Nat) : Int)))), (128, .int .i64 (((((tick T ((o).now)).told).length : Nat) : Int))), (129, .int .i64 (((j : Nat) : Int)))] ∧ Ext w w' ∧ (Blk w' b_32 [.int .i64 ((o).op), .int .i64 ((o).now), .slice ((o).peers.a) ((o).peers.len) ((o).peers.cap), .int .i64 ((o).kind), .int .i64 ((o).frm), .int .i64 ((o).req), .int .i64 ((o).owner), .int .i64 ((o).n)] 65) ∧ (TabAt w' b_1 al_309 cl_310 ((tick T ((o).now)).T)) ∧ (OwnSl w' 61 (a_315) (c_316) ((tick T ((o).now)).out)) ∧ (RTabAt w' b_8 aL_337 cL_338 aP_339 cP_340 ((tick T ((o).now)).T)) ∧ (OwnSl w' 61 (a_345) (c_346) ((tick T ((o).now)).out)) ∧ (OwnSl w' 23 (a_347) (c_348) ((tick T ((o).now)).told)) ∧ (OwnSl w' 23 a9 c9 (L9)) ∧ (¬ own a9 b_32) ∧ (∀ q_, own a9 q_ → ¬ tabS b_1 al_309 q_) ∧ (∀ q_, own a9 q_ → ¬ own a_315 q_) ∧ (∀ q_, own a9 q_ → ¬ rtabS b_8 aL_337 aP_339 q_) ∧ (∀ q_, own a9 q_ → ¬ own a_345 q_) ∧ (∀ q_, own a9 q_ → ¬ own a_347 q_) ∧ (∀ q_, own a9 q_ → w.heap.size ≤ q_) ∧ (j ≤ ((tick T ((o).now)).told).length) ∧ (L9.length = ((tick T ((o).now)).told).length)) (fun j => ((tick T ((o).now)).told).length - j) 0 ?_ ?_
            · refine ⟨_, _, _, ⟨rfl, rfl, rfl, rfl, rfl, rfl, rfl, rfl, rfl, rfl, trivial⟩, K0, hb_35, hT_312, ho_319, hR_342, ho_349, ho_350, ho_320, pr_332, pr_324, (fun q_ h1 h2 => pr_325 q_ h2 h1), (fun q_ h1 h2 => pr_371 q_ h2 h1), (fun q_ h1 h2 => pr_360 q_ h2 h1), (fun q_ h1 h2 => pr_366 q_ h2 h1), pg_333, ?_, ?_⟩
              · omega
              · rfl
            clear hb_35 hT_312 ho_319 ho_320 hR_342 ho_349 ho_350
            clear K0
            rintro j ρ_389 w_379 ⟨a9, c9, L9, hH_380, K0, hb_35, hT_312, ho_319, hR_342, ho_349, ho_350, ho_381, pr_382, pr_383, pr_384, pr_385, pr_386, pr_387, pr_388, hj, hL9⟩ ih5
            obtain ⟨ρ₀, rfl⟩ := hH_380.ex
            clear hH_380
            refine Run.seq ?_
            refine Run.region ?_
            refine RL.val (x_ltI rfl rfl) ?_
            refine RL.nil ?_
            refine Run.seq ?_
            refine Run.cond rfl (fun hc130 => ?_) (fun hc130 => ?_)
            · try simp only [br] at hc130
              refine Run.skip ?_
              refine Run.seq ?_
              refine Run.block ?_
              refine Run.seq ?_
              refine Run.region ?_
              refine RL.val (x_moveI rfl) ?_
              refine RL.val (x_assignI rfl) ?_
              refine RL.nil ?_
              refine Run.region ?_
              refine RL.val (x_moveSl rfl) ?_
              refine RL.val (x_moveI rfl) ?_
              obtain ⟨b_390, o_391, x_394, hx_395, ha_392, hc_393⟩ := ho_381.sl.el (i := j) (by omega)
              refine RL.val (x_idxN Try.underlying32 ty23 rfl rfl ha_392 (by omega)) ?_
              refine RL.val (x_fld (o' := o_391 + j * 3 + 0) Try.underlying23 rfl ty3 rfl rfl rfl) ?_
              refine RL.st rfl <| St1.storeEl (v := .int .i64 (99)) (off := 0) (i := j) (⟨99, x_394.inc, x_394.status⟩ : Peer) ty3 rfl rfl rfl (by simp [Value.cells, Value.oneCell']) ho_381 ha_392 hx_395 rfl (by decide) rfl ?_
              intro w_396 ho_398 K_397
              clear hc_393
              replace hb_35 := hb_35.keep K_397 pr_382
              replace hT_312 := hT_312.keepO K_397 (fun q_ h1 h2 => pr_383 q_ h2 h1)
              replace ho_319 := ho_319.keepO K_397 (fun q_ h1 h2 => pr_384 q_ h2 h1)
              replace hR_342 := hR_342.keepO K_397 (fun q_ h1 h2 => pr_385 q_ h2 h1)
              replace ho_349 := ho_349.keepO K_397 (fun q_ h1 h2 => pr_386 q_ h2 h1)
              replace ho_350 := ho_350.keepO K_397 (fun q_ h1 h2 => pr_387 q_ h2 h1)
              replace K0 := K0.new K_397 pr_388
              replace ho_381 := ho_398
              clear ho_398
              refine RL.nil ?_
              refine Run.inBlock ?_
              refine Run.region ?_
              refine RL.val (litI (c := ((j + 1 : Nat) : Int)) (x_add rfl rfl (by omega) (by omega)) rfl) ?_
              refine RL.val (x_moveI rfl) ?_
              refine RL.nil ?_
              refine ih5 (j + 1) _ _ ?_ (by omega)
              refine ⟨_, _, _, ⟨rfl, rfl, rfl, rfl, rfl, rfl, rfl, rfl, rfl, rfl, trivial⟩, K0, hb_35, hT_312, ho_319, hR_342, ho_349, ho_350, ho_381, pr_382, pr_383, pr_384, pr_385, pr_386, pr_387, pr_388, ?_, ?_⟩
              · omega
              · simpa using hL9
            · try simp only [br] at hc130
              refine Run.exit rfl ?_
              refine Run.inBlock ?_
              refine Run.region ?_
              refine RL.val (litI (c := ((i + 1 : Nat) : Int)) (x_add rfl rfl (by omega) (by omega)) rfl) ?_
              refine RL.val (x_moveI rfl) ?_
              refine RL.nil ?_
              refine ih1 (i + 1) _ _ ?_ (by omega)
              refine ⟨_, _, _, _, _, _, _, ⟨rfl, rfl, rfl, rfl, rfl, rfl, trivial⟩, K0, hT_312, hR_342, (fun q_ h1 h2 => pr_369 q_ h2 h1), pg_336, pg_372, ?_, ?_⟩
              · omega
              · omega
          · try simp only [br] at hc94
            refine Run.seq ?_
            refine Run.drawT [] (m := 12) (by kernel_rfl) rfl ?_
            intro w_399 K_400
            replace hO_20 := hO_20.ext K_400
            replace hO_21 := hO_21.ext K_400
            replace hb_35 := hb_35.ext K_400
            replace K0 := K0.ext K_400
            refine ⟨fun w' => Blk w' b_32 [.int .i64 ((o).op), .int .i64 ((o).now), .slice ((o).peers.a) ((o).peers.len) ((o).peers.cap), .int .i64 ((o).kind), .int .i64 ((o).frm), .int .i64 ((o).req), .int .i64 ((o).owner), .int .i64 ((o).n)] 65 ∧ True, ?_⟩
            refine RT.takeP (v := .pointer (some ⟨b_1, 0, none⟩)) 0 rfl (by kernel_rfl) (.inr ⟨hb_35, trivial⟩) (fun _ => (x_moveP rfl)) ?_
            refine RT.take (v := .agg #[.int .i64 ((o).op), .int .i64 ((o).now), .slice ((o).peers.a) ((o).peers.len) ((o).peers.cap), .int .i64 ((o).kind), .int .i64 ((o).frm), .int .i64 ((o).req), .int .i64 ((o).owner), .int .i64 ((o).n)]) 1 rfl (by kernel_rfl) ⟨hb_35, trivial⟩ (by rintro _ ⟨hb_35, -⟩; exact (x_lds (cs := #[.int .i64 ((o).op), .int .i64 ((o).now), .slice ((o).peers.a) ((o).peers.len) ((o).peers.cap), .int .i64 ((o).kind), .int .i64 ((o).frm), .int .i64 ((o).req), .int .i64 ((o).owner), .int .i64 ((o).n)]) ty65 rfl rfl (hb_35.cl.drop 0 8))) ?_
            refine RT.takeP (v := .int .i64 (n)) 2 rfl (by kernel_rfl) (.inr ⟨hb_35, trivial⟩) (fun _ => (x_moveI rfl)) ?_
            refine RT.takeP (v := .pointer (some ⟨b_32, 1, none⟩)) 4 rfl (by kernel_rfl) (.inr ⟨hb_35, trivial⟩) (fun _ => (x_fld (o' := 1) Try.underlying65 rfl ty3 rfl rfl rfl)) ?_
            refine RT.take (v := .int .i64 ((o).now)) 5 rfl (by kernel_rfl) ⟨hb_35, trivial⟩ (by rintro _ ⟨hb_35, -⟩; exact (x_ld (v := .int .i64 ((o).now)) ty3 rfl rfl (hb_35.cl.field (i := 1) rfl))) ?_
            refine RT.st 3 rfl (by kernel_rfl) rfl <| St1.call (vals := [.agg #[.int .i64 ((o).op), .int .i64 ((o).now), .slice ((o).peers.a) ((o).peers.len) ((o).peers.cap), .int .i64 ((o).kind), .int .i64 ((o).frm), .int .i64 ((o).req), .int .i64 ((o).owner), .int .i64 ((o).n)], .int .i64 (n)]) en27 rfl (msg_ o n _) ?_
            rintro _ w_401 ⟨rfl, K_402⟩
            replace hO_20 := hO_20.ext K_402
            replace hO_21 := hO_21.ext K_402
            replace hb_35 := hb_35.ext K_402
            replace K0 := K0.ext K_402
            refine ⟨.inr ⟨hb_35, trivial⟩, ?_⟩
            refine RT.st 6 rfl (by kernel_rfl) rfl <| St1.call (vals := [.pointer (some ⟨b_1, 0, none⟩), .agg #[.int .i64 ((msgOf o n).kind), .int .i64 ((msgOf o n).frm), .int .i64 ((msgOf o n).to), .int .i64 ((msgOf o n).req), .string ((msgOf o n).key), .slice ((msgOf o n).entries.a) ((msgOf o n).entries.len) ((msgOf o n).entries.cap), .slice ((msgOf o n).marks.a) ((msgOf o n).marks.len) ((msgOf o n).marks.cap), .slice ((msgOf o n).cloud.a) ((msgOf o n).cloud.len) ((msgOf o n).cloud.cap), .int .i64 ((msgOf o n).owner), .int .i64 ((msgOf o n).part), .int .i64 ((msgOf o n).n), .int .i64 ((msgOf o n).rparts), .int .i64 ((msgOf o n).rcopies), .int .i64 ((msgOf o n).rspots), .slice ((msgOf o n).members.a) ((msgOf o n).members.len) ((msgOf o n).members.cap), .slice ((msgOf o n).peers.a) ((msgOf o n).peers.len) ((msgOf o n).peers.cap), .slice ((msgOf o n).sums.a) ((msgOf o n).sums.len) ((msgOf o n).sums.cap)], .int .i64 ((o).now)]) en26 rfl (on_ _ _ _ T (msgOf o n) ((o).now) _ hO_20 (by omega) (by omega)) ?_
            rintro _ w_405 ⟨al_403, cl_404, a_409, c_410, a_411, c_412, rfl, hT_406, ho_413, ho_414, hg_415, hg_416, pr_417, pr_418, pr_419, hm_407, K_408⟩
            have pr_420 : ∀ q_, own a_409 q_ → ¬ tabS b_1 alb q_ := apartNew hg_415 hO_20.own_lt
            have pr_421 : ∀ q_, own a_409 q_ → ¬ rtabS b_8 aLb aPb q_ := apartNew hg_415 hO_21.own_lt
            have pr_422 : ¬ own a_409 b_32 := notNew hg_415 hb_35.lt
            have pg_423 : ∀ q_, own a_409 q_ → w.heap.size ≤ q_ := fun q_ h => Nat.le_trans K0.size (hg_415 q_ h)
            have pr_424 : ∀ q_, own a_411 q_ → ¬ tabS b_1 alb q_ := apartNew hg_416 hO_20.own_lt
            have pr_425 : ∀ q_, own a_411 q_ → ¬ rtabS b_8 aLb aPb q_ := apartNew hg_416 hO_21.own_lt
            have pr_426 : ¬ own a_411 b_32 := notNew hg_416 hb_35.lt
            have pg_427 : ∀ q_, own a_411 q_ → w.heap.size ≤ q_ := fun q_ h => Nat.le_trans K0.size (hg_416 q_ h)
            have pr_428 : ∀ q_, tabS b_1 al_403 q_ → ¬ rtabS b_8 aLb aPb q_ := hm_407.apart pr_22 hO_21.own_lt
            have pr_429 : ¬ tabS b_1 al_403 b_32 := hm_407.not pr_38 hb_35.lt
            have pg_430 : ∀ q_, tabS b_1 al_403 q_ → w.heap.size ≤ q_ := hm_407.ge pr_23 K0.size
            replace hO_21 := hO_21.keepO K_408 (fun q_ h1 h2 => pr_22 q_ h2 h1)
            replace hb_35 := hb_35.keep K_408 pr_38
            replace K0 := K0.new K_408 pr_23
            clear hm_407
            clear hg_415 hg_416
            refine ⟨.inr ⟨hb_35, trivial⟩, ?_⟩
            refine RT.takeP (v := .tuple #[.slice (a_409) (((on T (msgOf o n) ((o).now)).out).length) (c_410), .slice (a_411) (((on T (msgOf o n) ((o).now)).told).length) (c_412)]) 7 rfl (by kernel_rfl) (.inr ⟨hb_35, trivial⟩) (fun _ => (x_moveT rfl)) ?_
            refine RT.takeP (v := .slice (a_409) (((on T (msgOf o n) ((o).now)).out).length) (c_410)) 8 rfl (by kernel_rfl) (.inr ⟨hb_35, trivial⟩) (fun _ => (x_extract rfl rfl)) ?_
            refine RT.takeP (v := .slice (a_411) (((on T (msgOf o n) ((o).now)).told).length) (c_412)) 9 rfl (by kernel_rfl) (.inr ⟨hb_35, trivial⟩) (fun _ => (x_extract rfl rfl)) ?_
            refine RT.takeP (v := .slice (a_409) (((on T (msgOf o n) ((o).now)).out).length) (c_410)) 10 rfl (by kernel_rfl) (.inr ⟨hb_35, trivial⟩) (fun _ => (x_assignSl rfl)) ?_
            refine RT.takeP (v := .slice (a_411) (((on T (msgOf o n) ((o).now)).told).length) (c_412)) 11 rfl (by kernel_rfl) (.inr ⟨hb_35, trivial⟩) (fun _ => (x_assignSl rfl)) ?_
            refine RT.done (by kernel_rfl) ?_
            refine Run.drawT [] (m := 12) (by kernel_rfl) rfl ?_
            intro w_431 K_432
            replace hO_21 := hO_21.ext K_432
            replace hb_35 := hb_35.ext K_432
            replace hT_406 := hT_406.ext K_432
            replace ho_413 := ho_413.ext K_432
            replace ho_414 := ho_414.ext K_432
            replace K0 := K0.ext K_432
            refine ⟨fun w' => Blk w' b_32 [.int .i64 ((o).op), .int .i64 ((o).now), .slice ((o).peers.a) ((o).peers.len) ((o).peers.cap), .int .i64 ((o).kind), .int .i64 ((o).frm), .int .i64 ((o).req), .int .i64 ((o).owner), .int .i64 ((o).n)] 65 ∧ True, ?_⟩
            refine RT.takeP (v := .pointer (some ⟨b_8, 0, none⟩)) 0 rfl (by kernel_rfl) (.inr ⟨hb_35, trivial⟩) (fun _ => (x_moveP rfl)) ?_
            refine RT.take (v := .agg #[.int .i64 ((o).op), .int .i64 ((o).now), .slice ((o).peers.a) ((o).peers.len) ((o).peers.cap), .int .i64 ((o).kind), .int .i64 ((o).frm), .int .i64 ((o).req), .int .i64 ((o).owner), .int .i64 ((o).n)]) 1 rfl (by kernel_rfl) ⟨hb_35, trivial⟩ (by rintro _ ⟨hb_35, -⟩; exact (x_lds (cs := #[.int .i64 ((o).op), .int .i64 ((o).now), .slice ((o).peers.a) ((o).peers.len) ((o).peers.cap), .int .i64 ((o).kind), .int .i64 ((o).frm), .int .i64 ((o).req), .int .i64 ((o).owner), .int .i64 ((o).n)]) ty65 rfl rfl (hb_35.cl.drop 0 8))) ?_
            refine RT.takeP (v := .int .i64 (n)) 2 rfl (by kernel_rfl) (.inr ⟨hb_35, trivial⟩) (fun _ => (x_moveI rfl)) ?_
            refine RT.takeP (v := .pointer (some ⟨b_32, 1, none⟩)) 4 rfl (by kernel_rfl) (.inr ⟨hb_35, trivial⟩) (fun _ => (x_fld (o' := 1) Try.underlying65 rfl ty3 rfl rfl rfl)) ?_
            refine RT.take (v := .int .i64 ((o).now)) 5 rfl (by kernel_rfl) ⟨hb_35, trivial⟩ (by rintro _ ⟨hb_35, -⟩; exact (x_ld (v := .int .i64 ((o).now)) ty3 rfl rfl (hb_35.cl.field (i := 1) rfl))) ?_
            refine RT.st 3 rfl (by kernel_rfl) rfl <| St1.call (vals := [.agg #[.int .i64 ((o).op), .int .i64 ((o).now), .slice ((o).peers.a) ((o).peers.len) ((o).peers.cap), .int .i64 ((o).kind), .int .i64 ((o).frm), .int .i64 ((o).req), .int .i64 ((o).owner), .int .i64 ((o).n)], .int .i64 (n)]) en27 rfl (msg_ o n _) ?_
            rintro _ w_433 ⟨rfl, K_434⟩
            replace hO_21 := hO_21.ext K_434
            replace hb_35 := hb_35.ext K_434
            replace hT_406 := hT_406.ext K_434
            replace ho_413 := ho_413.ext K_434
            replace ho_414 := ho_414.ext K_434
            replace K0 := K0.ext K_434
            refine ⟨.inr ⟨hb_35, trivial⟩, ?_⟩
            refine RT.st 6 rfl (by kernel_rfl) rfl <| St1.call (vals := [.pointer (some ⟨b_8, 0, none⟩), .agg #[.int .i64 ((msgOf o n).kind), .int .i64 ((msgOf o n).frm), .int .i64 ((msgOf o n).to), .int .i64 ((msgOf o n).req), .string ((msgOf o n).key), .slice ((msgOf o n).entries.a) ((msgOf o n).entries.len) ((msgOf o n).entries.cap), .slice ((msgOf o n).marks.a) ((msgOf o n).marks.len) ((msgOf o n).marks.cap), .slice ((msgOf o n).cloud.a) ((msgOf o n).cloud.len) ((msgOf o n).cloud.cap), .int .i64 ((msgOf o n).owner), .int .i64 ((msgOf o n).part), .int .i64 ((msgOf o n).n), .int .i64 ((msgOf o n).rparts), .int .i64 ((msgOf o n).rcopies), .int .i64 ((msgOf o n).rspots), .slice ((msgOf o n).members.a) ((msgOf o n).members.len) ((msgOf o n).members.cap), .slice ((msgOf o n).peers.a) ((msgOf o n).peers.len) ((msgOf o n).peers.cap), .slice ((msgOf o n).sums.a) ((msgOf o n).sums.len) ((msgOf o n).sums.cap)], .int .i64 ((o).now)]) en35 rfl (onR_ _ _ _ _ _ T (msgOf o n) ((o).now) _ hO_21 (by omega) (by omega)) ?_
            rintro _ w_439 ⟨aL_435, cL_436, aP_437, cP_438, a_443, c_444, a_445, c_446, rfl, hR_440, ho_447, ho_448, hg_449, hg_450, pr_451, pr_452, pr_453, hm_441, K_442⟩
            have pr_454 : ∀ q_, own a_443 q_ → ¬ rtabS b_8 aLb aPb q_ := apartNew hg_449 hO_21.own_lt
            have pr_455 : ¬ own a_443 b_32 := notNew hg_449 hb_35.lt
            have pr_456 : ∀ q_, own a_443 q_ → ¬ tabS b_1 al_403 q_ := apartNew hg_449 hT_406.own_lt
            have pr_457 : ∀ q_, own a_443 q_ → ¬ own a_409 q_ := apartNew hg_449 ho_413.own_lt
            have pr_458 : ∀ q_, own a_443 q_ → ¬ own a_411 q_ := apartNew hg_449 ho_414.own_lt
            have pg_459 : ∀ q_, own a_443 q_ → w.heap.size ≤ q_ := fun q_ h => Nat.le_trans K0.size (hg_449 q_ h)
            have pr_460 : ∀ q_, own a_445 q_ → ¬ rtabS b_8 aLb aPb q_ := apartNew hg_450 hO_21.own_lt
            have pr_461 : ¬ own a_445 b_32 := notNew hg_450 hb_35.lt
            have pr_462 : ∀ q_, own a_445 q_ → ¬ tabS b_1 al_403 q_ := apartNew hg_450 hT_406.own_lt
            have pr_463 : ∀ q_, own a_445 q_ → ¬ own a_409 q_ := apartNew hg_450 ho_413.own_lt
            have pr_464 : ∀ q_, own a_445 q_ → ¬ own a_411 q_ := apartNew hg_450 ho_414.own_lt
            have pg_465 : ∀ q_, own a_445 q_ → w.heap.size ≤ q_ := fun q_ h => Nat.le_trans K0.size (hg_450 q_ h)
            have pr_466 : ¬ rtabS b_8 aL_435 aP_437 b_32 := hm_441.not pr_39 hb_35.lt
            have pr_467 : ∀ q_, rtabS b_8 aL_435 aP_437 q_ → ¬ tabS b_1 al_403 q_ := hm_441.apart (fun q_ h1 h2 => pr_428 q_ h2 h1) hT_406.own_lt
            have pr_468 : ∀ q_, rtabS b_8 aL_435 aP_437 q_ → ¬ own a_409 q_ := hm_441.apart (fun q_ h1 h2 => pr_421 q_ h2 h1) ho_413.own_lt
            have pr_469 : ∀ q_, rtabS b_8 aL_435 aP_437 q_ → ¬ own a_411 q_ := hm_441.apart (fun q_ h1 h2 => pr_425 q_ h2 h1) ho_414.own_lt
            have pg_470 : ∀ q_, rtabS b_8 aL_435 aP_437 q_ → w.heap.size ≤ q_ := hm_441.ge pr_24 K0.size
            replace hb_35 := hb_35.keep K_442 pr_39
            replace hT_406 := hT_406.keepO K_442 pr_428
            replace ho_413 := ho_413.keepO K_442 pr_421
            replace ho_414 := ho_414.keepO K_442 pr_425
            replace K0 := K0.new K_442 pr_24
            clear hm_441 hg_449 hg_450
            refine ⟨.inr ⟨hb_35, trivial⟩, ?_⟩
            refine RT.takeP (v := .tuple #[.slice (a_443) (((on T (msgOf o n) ((o).now)).out).length) (c_444), .slice (a_445) (((on T (msgOf o n) ((o).now)).told).length) (c_446)]) 7 rfl (by kernel_rfl) (.inr ⟨hb_35, trivial⟩) (fun _ => (x_moveT rfl)) ?_
            refine RT.takeP (v := .slice (a_443) (((on T (msgOf o n) ((o).now)).out).length) (c_444)) 8 rfl (by kernel_rfl) (.inr ⟨hb_35, trivial⟩) (fun _ => (x_extract rfl rfl)) ?_
            refine RT.takeP (v := .slice (a_445) (((on T (msgOf o n) ((o).now)).told).length) (c_446)) 9 rfl (by kernel_rfl) (.inr ⟨hb_35, trivial⟩) (fun _ => (x_extract rfl rfl)) ?_
            refine RT.takeP (v := .slice (a_443) (((on T (msgOf o n) ((o).now)).out).length) (c_444)) 10 rfl (by kernel_rfl) (.inr ⟨hb_35, trivial⟩) (fun _ => (x_assignSl rfl)) ?_
            refine RT.takeP (v := .slice (a_445) (((on T (msgOf o n) ((o).now)).told).length) (c_446)) 11 rfl (by kernel_rfl) (.inr ⟨hb_35, trivial⟩) (fun _ => (x_assignSl rfl)) ?_
            refine RT.done (by kernel_rfl) ?_
            obtain ⟨_, hb1, hb2, hb3⟩ := on_ok (m := msgOf o n) (t := o.now) hok (by omega)
            refine Run.inBlock ?_
            refine Run.seq ?_
            refine Run.seq ?_
            refine Run.region ?_
            refine RL.val (x_moveSl rfl) ?_
            refine RL.val (x_moveSl rfl) ?_
            refine RL.st rfl <| St1.call (vals := [.slice (a_409) (((on T (msgOf o n) ((o).now)).out).length) (c_410), .slice (a_443) (((on T (msgOf o n) ((o).now)).out).length) (c_444)]) en36 rfl (same_ _ ((on T (msgOf o n) ((o).now)).out) _ _ _ _ ho_413.sl ho_447.sl (by first | omega | (simp only [List.length_nil]; omega)) (by first | exact bare_nil | exact bare_tick _ _ | exact bare_on _ _ _)) ?_
            rintro _ w_471 ⟨rfl, K_472⟩
            replace hb_35 := hb_35.ext K_472
            replace hT_406 := hT_406.ext K_472
            replace ho_413 := ho_413.ext K_472
            replace ho_414 := ho_414.ext K_472
            replace hR_440 := hR_440.ext K_472
            replace ho_447 := ho_447.ext K_472
            replace ho_448 := ho_448.ext K_472
            replace K0 := K0.ext K_472
            refine RL.val (x_not rfl) ?_
            refine RL.val (x_moveB rfl) ?_
            refine RL.gst (wantedF1 rfl rfl rfl rfl) <| St1.val (x_moveSl rfl) ?_
            refine RL.gst (wantedF1 rfl rfl rfl rfl) <| St1.val (x_moveSl rfl) ?_
            refine RL.gst (wantedF1 rfl rfl rfl rfl) <| St1.call (vals := [.slice (a_411) (((on T (msgOf o n) ((o).now)).told).length) (c_412), .slice (a_445) (((on T (msgOf o n) ((o).now)).told).length) (c_446)]) en25 rfl (equalT_peer _ ((on T (msgOf o n) ((o).now)).told) _ _ _ _ ho_414.sl ho_448.sl (by omega)) ?_
            rintro _ w_473 ⟨rfl, K_474⟩
            replace hb_35 := hb_35.ext K_474
            replace hT_406 := hT_406.ext K_474
            replace ho_413 := ho_413.ext K_474
            replace ho_414 := ho_414.ext K_474
            replace hR_440 := hR_440.ext K_474
            replace ho_447 := ho_447.ext K_474
            replace ho_448 := ho_448.ext K_474
            replace K0 := K0.ext K_474
            refine RL.gst (wantedF1 rfl rfl rfl rfl) <| St1.val (x_not rfl) ?_
            refine RL.val (x_orF rfl rfl rfl) ?_
            refine RL.val (x_moveB rfl) ?_
            refine RL.gst (wantedF1 rfl rfl rfl rfl) <| St1.val (x_moveP rfl) ?_
            refine RL.gst (wantedF1 rfl rfl rfl rfl) <| St1.val (x_moveP rfl) ?_
            refine RL.gst (wantedF1 rfl rfl rfl rfl) <| St1.call (vals := [.pointer (some ⟨b_1, 0, none⟩), .pointer (some ⟨b_8, 0, none⟩)]) en37 rfl (alike_ _ _ _ _ _ _ _ _ ((on T (msgOf o n) ((o).now)).T) _ hT_406 hR_440) ?_
            rintro _ w_475 ⟨rfl, K_476⟩
            replace hb_35 := hb_35.ext K_476
            replace hT_406 := hT_406.ext K_476
            replace ho_413 := ho_413.ext K_476
            replace ho_414 := ho_414.ext K_476
            replace hR_440 := hR_440.ext K_476
            replace ho_447 := ho_447.ext K_476
            replace ho_448 := ho_448.ext K_476
            replace K0 := K0.ext K_476
            refine RL.gst (wantedF1 rfl rfl rfl rfl) <| St1.val (x_not rfl) ?_
            refine RL.val (x_orF rfl rfl rfl) ?_
            refine RL.nil ?_
            refine Run.condF rfl ?_
            refine Run.skip ?_
            refine Run.seq ?_
            refine Run.region ?_
            refine RL.val (x_moveSl rfl) ?_
            refine RL.val (x_lenSl Try.underlying32 rfl) ?_
            refine RL.val (x_moveI rfl) ?_
            refine RL.nil ?_
            refine Run.block ?_
            refine Run.loop (ι := Nat) (fun j ρ' w' => ∃ a9 : Option Addr, ∃ c9 : Nat, ∃ L9 : List Peer, Holds ρ' [(0, .int .i64 (n)), (5, .pointer (some ⟨b_1, 0, none⟩)), (7, .pointer (some ⟨b_8, 0, none⟩)), (13, .slice (a9) (((on T (msgOf o n) ((o).now)).told).length) (c9)), (40, .slice (as0) (script.length) (cs0)), (41, .int .i64 (((script.length : Nat) : Int))), (42, .int .i64 (((i : Nat) : Int))), (43, .bool (decide (((i : Nat) : Int) < ((script.length : Nat) : Int)))), (128, .int .i64 (((((on T (msgOf o n) ((o).now)).told).length : Nat) : Int))), (129, .int .i64 (((j : Nat) : Int)))] ∧ Ext w w' ∧ (Blk w' b_32 [.int .i64 ((o).op), .int .i64 ((o).now), .slice ((o).peers.a) ((o).peers.len) ((o).peers.cap), .int .i64 ((o).kind), .int .i64 ((o).frm), .int .i64 ((o).req), .int .i64 ((o).owner), .int .i64 ((o).n)] 65) ∧ (TabAt w' b_1 al_403 cl_404 ((on T (msgOf o n) ((o).now)).T)) ∧ (OwnSl w' 61 (a_409) (c_410) ((on T (msgOf o n) ((o).now)).out)) ∧ (RTabAt w' b_8 aL_435 cL_436 aP_437 cP_438 ((on T (msgOf o n) ((o).now)).T)) ∧ (OwnSl w' 61 (a_443) (c_444) ((on T (msgOf o n) ((o).now)).out)) ∧ (OwnSl w' 23 (a_445) (c_446) ((on T (msgOf o n) ((o).now)).told)) ∧ (OwnSl w' 23 a9 c9 (L9)) ∧ (¬ own a9 b_32) ∧ (∀ q_, own a9 q_ → ¬ tabS b_1 al_403 q_) ∧ (∀ q_, own a9 q_ → ¬ own a_409 q_) ∧ (∀ q_, own a9 q_ → ¬ rtabS b_8 aL_435 aP_437 q_) ∧ (∀ q_, own a9 q_ → ¬ own a_443 q_) ∧ (∀ q_, own a9 q_ → ¬ own a_445 q_) ∧ (∀ q_, own a9 q_ → w.heap.size ≤ q_) ∧ (j ≤ ((on T (msgOf o n) ((o).now)).told).length) ∧ (L9.length = ((on T (msgOf o n) ((o).now)).told).length)) (fun j => ((on T (msgOf o n) ((o).now)).told).length - j) 0 ?_ ?_
            · refine ⟨_, _, _, ⟨rfl, rfl, rfl, rfl, rfl, rfl, rfl, rfl, rfl, rfl, trivial⟩, K0, hb_35, hT_406, ho_413, hR_440, ho_447, ho_448, ho_414, pr_426, pr_418, (fun q_ h1 h2 => pr_419 q_ h2 h1), (fun q_ h1 h2 => pr_469 q_ h2 h1), (fun q_ h1 h2 => pr_458 q_ h2 h1), (fun q_ h1 h2 => pr_464 q_ h2 h1), pg_427, ?_, ?_⟩
              · omega
              · rfl
            clear hb_35 hT_406 ho_413 ho_414 hR_440 ho_447 ho_448
            clear K0
            rintro j ρ_487 w_477 ⟨a9, c9, L9, hH_478, K0, hb_35, hT_406, ho_413, hR_440, ho_447, ho_448, ho_479, pr_480, pr_481, pr_482, pr_483, pr_484, pr_485, pr_486, hj, hL9⟩ ih6
            obtain ⟨ρ₀, rfl⟩ := hH_478.ex
            clear hH_478
            refine Run.seq ?_
            refine Run.region ?_
            refine RL.val (x_ltI rfl rfl) ?_
            refine RL.nil ?_
            refine Run.seq ?_
            refine Run.cond rfl (fun hc130 => ?_) (fun hc130 => ?_)
            · try simp only [br] at hc130
              refine Run.skip ?_
              refine Run.seq ?_
              refine Run.block ?_
              refine Run.seq ?_
              refine Run.region ?_
              refine RL.val (x_moveI rfl) ?_
              refine RL.val (x_assignI rfl) ?_
              refine RL.nil ?_
              refine Run.region ?_
              refine RL.val (x_moveSl rfl) ?_
              refine RL.val (x_moveI rfl) ?_
              obtain ⟨b_488, o_489, x_492, hx_493, ha_490, hc_491⟩ := ho_479.sl.el (i := j) (by omega)
              refine RL.val (x_idxN Try.underlying32 ty23 rfl rfl ha_490 (by omega)) ?_
              refine RL.val (x_fld (o' := o_489 + j * 3 + 0) Try.underlying23 rfl ty3 rfl rfl rfl) ?_
              refine RL.st rfl <| St1.storeEl (v := .int .i64 (99)) (off := 0) (i := j) (⟨99, x_492.inc, x_492.status⟩ : Peer) ty3 rfl rfl rfl (by simp [Value.cells, Value.oneCell']) ho_479 ha_490 hx_493 rfl (by decide) rfl ?_
              intro w_494 ho_496 K_495
              clear hc_491
              replace hb_35 := hb_35.keep K_495 pr_480
              replace hT_406 := hT_406.keepO K_495 (fun q_ h1 h2 => pr_481 q_ h2 h1)
              replace ho_413 := ho_413.keepO K_495 (fun q_ h1 h2 => pr_482 q_ h2 h1)
              replace hR_440 := hR_440.keepO K_495 (fun q_ h1 h2 => pr_483 q_ h2 h1)
              replace ho_447 := ho_447.keepO K_495 (fun q_ h1 h2 => pr_484 q_ h2 h1)
              replace ho_448 := ho_448.keepO K_495 (fun q_ h1 h2 => pr_485 q_ h2 h1)
              replace K0 := K0.new K_495 pr_486
              replace ho_479 := ho_496
              clear ho_496
              refine RL.nil ?_
              refine Run.inBlock ?_
              refine Run.region ?_
              refine RL.val (litI (c := ((j + 1 : Nat) : Int)) (x_add rfl rfl (by omega) (by omega)) rfl) ?_
              refine RL.val (x_moveI rfl) ?_
              refine RL.nil ?_
              refine ih6 (j + 1) _ _ ?_ (by omega)
              refine ⟨_, _, _, ⟨rfl, rfl, rfl, rfl, rfl, rfl, rfl, rfl, rfl, rfl, trivial⟩, K0, hb_35, hT_406, ho_413, hR_440, ho_447, ho_448, ho_479, pr_480, pr_481, pr_482, pr_483, pr_484, pr_485, pr_486, ?_, ?_⟩
              · omega
              · simpa using hL9
            · try simp only [br] at hc130
              refine Run.exit rfl ?_
              refine Run.inBlock ?_
              refine Run.region ?_
              refine RL.val (litI (c := ((i + 1 : Nat) : Int)) (x_add rfl rfl (by omega) (by omega)) rfl) ?_
              refine RL.val (x_moveI rfl) ?_
              refine RL.nil ?_
              refine ih1 (i + 1) _ _ ?_ (by omega)
              refine ⟨_, _, _, _, _, _, _, ⟨rfl, rfl, rfl, rfl, rfl, rfl, trivial⟩, K0, hT_406, hR_440, (fun q_ h1 h2 => pr_467 q_ h2 h1), pg_430, pg_470, ?_, ?_⟩
              · omega
              · omega
  · try simp only [br] at hc43
    refine Run.exit rfl ?_
    refine Run.seq ?_
    refine Run.region ?_
    refine RL.val (x_moveP rfl) ?_
    refine RL.val (x_moveP rfl) ?_
    refine RL.st rfl <| St1.call (vals := [.pointer (some ⟨b_1, 0, none⟩), .pointer (some ⟨b_8, 0, none⟩)]) en37 rfl (alike_ _ _ _ _ _ _ _ _ T _ hO_20 hO_21) ?_
    rintro _ w_497 ⟨rfl, K_498⟩
    replace hO_20 := hO_20.ext K_498
    replace hO_21 := hO_21.ext K_498
    replace K0 := K0.ext K_498
    refine RL.val (x_moveB rfl) ?_
    refine RL.gst (wantedT1 rfl rfl rfl rfl) <| St1.call (vals := []) en13 rfl (awake_ _) ?_
    rintro _ w_499 ⟨rfl, K_500⟩
    replace hO_20 := hO_20.ext K_500
    replace hO_21 := hO_21.ext K_500
    replace K0 := K0.ext K_500
    refine RL.val (x_andT rfl rfl rfl) ?_
    refine RL.val (x_assignB rfl) ?_
    refine RL.nil ?_
    refine Run.ret1 (v := .bool (true)) Try.func10 rfl rfl ?_
    exact ⟨_, rfl, rfl, K0⟩

set_option maxRecDepth 100000 in
set_option maxHeartbeats 4000000 in
theorem law_lives0 (n : Int) (as0 : Option Addr) (script : List DoC) (cs0 : Nat) (w : World) (h0 : SlOf w as0 script) (hl0 : script.length ≤ 1048576) (hq : ∀ o ∈ script, DoOk w o) (hn : n < 0 ∨ 8 ≤ n) :
    Calls Try.prog 10 #[.int .i64 (n), .slice (as0) (script.length) (cs0)] w (Ret (fun v w' => v = .bool true ∧ Ext w w')) := by
  refine calls_run (n := 144) Try.func10 rfl rfl rfl ?_
  refine Run.seq ?_
  refine Run.region ?_
  refine RL.val (x_assignB rfl) ?_
  refine RL.nil ?_
  refine Run.seq ?_
  refine Run.region ?_
  refine RL.val (x_moveI rfl) ?_
  refine RL.st rfl <| St1.call (vals := [.int .i64 (n)]) en14 rfl (new_ n _) ?_
  rintro _ w_1 (⟨_, rfl, K_2⟩ | ⟨_, hbad, _⟩)
  rotate_left
  · exact absurd hbad (by omega)
  have K0 := (K_2 : Ext w _)
  refine RL.val (x_moveT rfl) ?_
  refine RL.val (x_extract rfl rfl) ?_
  refine RL.val (x_extract rfl rfl) ?_
  refine RL.val (x_assignP rfl) ?_
  refine RL.val (x_assignI rfl) ?_
  refine RL.nil ?_
  refine Run.seq ?_
  refine Run.region ?_
  refine RL.val (x_moveI rfl) ?_
  refine RL.st rfl <| St1.call (vals := [.int .i64 (n)]) en32 rfl (newR_ n _) ?_
  rintro _ w_3 (⟨_, rfl, K_4⟩ | ⟨_, _, _, hbad, _⟩)
  rotate_left
  · exact absurd hbad (by omega)
  replace K0 := K0.ext K_4
  refine RL.val (x_moveT rfl) ?_
  refine RL.val (x_extract rfl rfl) ?_
  refine RL.val (x_extract rfl rfl) ?_
  refine RL.val (x_assignP rfl) ?_
  refine RL.val (x_assignI rfl) ?_
  refine RL.nil ?_
  refine Run.seq ?_
  refine Run.seq ?_
  refine Run.region ?_
  refine RL.val (x_moveI rfl) ?_
  refine RL.val (x_moveI rfl) ?_
  refine RL.val (litF (x_neI rfl rfl) (by decide)) ?_
  refine RL.val (x_moveB rfl) ?_
  refine RL.gst (wantedF1 rfl rfl rfl rfl) <| St1.val (x_moveP rfl) ?_
  refine RL.gst (wantedF1 rfl rfl rfl rfl) <| St1.val (litT (x_ptrNil Try.underlying28 rfl rfl) rfl) ?_
  refine RL.gst (wantedF1 rfl rfl rfl rfl) <| St1.val (x_moveP rfl) ?_
  refine RL.gst (wantedF1 rfl rfl rfl rfl) <| St1.val (litT (x_ptrNil Try.underlying78 rfl rfl) rfl) ?_
  refine RL.gst (wantedF1 rfl rfl rfl rfl) <| St1.val (litF (x_neB Try.underlying4 rfl rfl) rfl) ?_
  refine RL.val (x_orF rfl rfl rfl) ?_
  refine RL.nil ?_
  refine Run.condF rfl ?_
  refine Run.skip ?_
  refine Run.seq ?_
  refine Run.seq ?_
  refine Run.region ?_
  refine RL.val (x_moveP rfl) ?_
  refine RL.val (litT (x_ptrNil Try.underlying78 rfl rfl) rfl) ?_
  refine RL.nil ?_
  refine Run.condT rfl ?_
  refine Run.seq ?_
  refine Run.region ?_
  refine RL.st rfl <| St1.call (vals := []) en13 rfl (awake_ _) ?_
  rintro _ w_5 ⟨rfl, K_6⟩
  replace K0 := K0.ext K_6
  refine RL.val (x_assignB rfl) ?_
  refine RL.nil ?_
  refine Run.ret1 (v := .bool (true)) Try.func10 rfl rfl ?_
  exact ⟨_, rfl, rfl, K0⟩

theorem law_lives_all (n : Int) (as0 : Option Addr) (script : List DoC) (cs0 : Nat) (w : World) (h0 : SlOf w as0 script) (hl0 : script.length ≤ 1048576) (hq : ∀ o ∈ script, DoOk w o) :
    Calls Try.prog 10 #[.int .i64 n, .slice as0 script.length cs0] w (Ret fun v w' => v = .bool true ∧ Ext w w') := by
  by_cases hn : 0 ≤ n ∧ n < 8
  · exact law_lives n as0 script cs0 w h0 hl0 hq hn
  · exact law_lives0 n as0 script cs0 w h0 hl0 hq (by omega)

end Go.Proofs.Ytagfdmdajmkddaa
