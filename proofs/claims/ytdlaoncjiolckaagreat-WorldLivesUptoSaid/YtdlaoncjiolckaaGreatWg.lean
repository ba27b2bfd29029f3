/-
  Layer 22's walks, sixth part: turn, Cut, Mend; what is no world.
-/
import Derived.Test.YtdlaoncjiolckaaGreatRows
import Derived.Test.YtdlaoncjiolckaaGreatWf
namespace Go.Proofs.YtdlaoncjiolckaaGreat
attribute [local irreducible] St1 RL RA RT RT1 Run

theorem ty24 : Ty Tryz.prog 24 1 8 (.int .i64 (0)) false := ty_of (by kernel_rfl) (by kernel_rfl)
theorem en51 : Enters Tryz.prog 51 := enters_of Tryz.func51 rfl (by kernel_rfl)
theorem en52 : Enters Tryz.prog 52 := enters_of Tryz.func52 rfl (by kernel_rfl)
theorem en55 : Enters Tryz.prog 55 := enters_of Tryz.func55 rfl (by kernel_rfl)
theorem en74 : Enters Tryz.prog 74 := enters_of Tryz.func74 rfl (by kernel_rfl)
theorem en81 : Enters Tryz.prog 81 := enters_of Tryz.func81 rfl (by kernel_rfl)

set_option maxRecDepth 100000 in
set_option maxHeartbeats 4000000 in
theorem number8 (w : World) :
    Calls Tryz.prog 74 #[.iface 24 (.int .i64 (8))] w (Ret (fun v w' => v = .int .i64 8 ∧ Ext w w')) := by
  refine calls_run (n := 17) Tryz.func74 rfl rfl rfl ?_
  refine Run.seq ?_
  refine Run.region ?_
  refine RL.val (x_assignI rfl) ?_
  refine RL.nil ?_
  refine Run.seq ?_
  refine Run.seq ?_
  refine Run.region ?_
  refine RL.st rfl <| St1.buildSlice ([8, 1] : List Int) Tryz.underlying138 ty24 rfl rfl (by first | decide | (simp [Enc.size])) ?_
  intro b_1 w_2 hl_5 ho_4 K_3
  have pg_6 : ∀ q_, own (some ⟨b_1, 0, none⟩) q_ → w.heap.size ≤ q_ := fun q_ h => Nat.le_trans (Nat.le_refl _) ((ge_new hl_5) q_ h)
  clear hl_5
  have K0 := (K_3 : Ext w _)
  refine RL.val (litI (c := 2) (x_lenSl Tryz.underlying138 rfl) rfl) ?_
  refine RL.val (x_moveI rfl) ?_
  refine RL.nil ?_
  refine Run.block ?_
  refine Run.unloop ?_
  refine Run.seq ?_
  refine Run.region ?_
  refine RL.val (litT (x_ltI rfl rfl) (by decide)) ?_
  refine RL.nil ?_
  refine Run.seq ?_
  refine Run.condT rfl ?_
  refine Run.skip ?_
  refine Run.seq ?_
  refine Run.block ?_
  refine Run.seq ?_
  refine Run.region ?_
  obtain ⟨b_7, o_8, x_11, hx_12, ha_9, hc_10⟩ := ho_4.sl.el (i := 0) (by simp)
  obtain rfl : 8 = x_11 := Option.some.inj hx_12
  refine RL.val (x_idxN Tryz.underlying138 ty24 rfl rfl ha_9 (by simp)) ?_
  refine RL.val (x_ldV (v := .int .i64 (8)) (y := 8) ty24 rfl hc_10 rfl) ?_
  refine RL.val (x_assignI rfl) ?_
  refine RL.nil ?_
  refine Run.seq ?_
  refine Run.region ?_
  refine RL.val (x_move (v := .iface 24 (.int .i64 (8))) rfl) ?_
  refine RL.val (x_moveI rfl) ?_
  refine RL.val (x_mkIfaceI (v := .int .i64 (8)) Tryz.underlying24 rfl) ?_
  refine RL.st rfl <| St1.call (vals := [.iface 24 (.int .i64 (8)), .iface 24 (.int .i64 (8))]) en81 rfl (calls_same (IsE.is_same 8 _)) ?_
  rintro _ _ ⟨rfl, rfl⟩
  refine RL.nil ?_
  refine Run.condT rfl ?_
  refine Run.seq ?_
  refine Run.region ?_
  refine RL.val (x_moveI rfl) ?_
  refine RL.val (x_assignI rfl) ?_
  refine RL.nil ?_
  refine Run.ret1 (v := .int .i64 (8)) Tryz.func74 rfl rfl ?_
  exact ⟨_, rfl, rfl, K0⟩

set_option maxRecDepth 100000 in
set_option maxHeartbeats 4000000 in
theorem number1 (w : World) :
    Calls Tryz.prog 74 #[.iface 24 (.int .i64 (1))] w (Ret (fun v w' => v = .int .i64 1 ∧ Ext w w')) := by
  refine calls_run (n := 17) Tryz.func74 rfl rfl rfl ?_
  refine Run.seq ?_
  refine Run.region ?_
  refine RL.val (x_assignI rfl) ?_
  refine RL.nil ?_
  refine Run.seq ?_
  refine Run.seq ?_
  refine Run.region ?_
  refine RL.st rfl <| St1.buildSlice ([8, 1] : List Int) Tryz.underlying138 ty24 rfl rfl (by first | decide | (simp [Enc.size])) ?_
  intro b_1 w_2 hl_5 ho_4 K_3
  have pg_6 : ∀ q_, own (some ⟨b_1, 0, none⟩) q_ → w.heap.size ≤ q_ := fun q_ h => Nat.le_trans (Nat.le_refl _) ((ge_new hl_5) q_ h)
  clear hl_5
  have K0 := (K_3 : Ext w _)
  refine RL.val (litI (c := 2) (x_lenSl Tryz.underlying138 rfl) rfl) ?_
  refine RL.val (x_moveI rfl) ?_
  refine RL.nil ?_
  refine Run.block ?_
  refine Run.unloop ?_
  refine Run.seq ?_
  refine Run.region ?_
  refine RL.val (litT (x_ltI rfl rfl) (by decide)) ?_
  refine RL.nil ?_
  refine Run.seq ?_
  refine Run.condT rfl ?_
  refine Run.skip ?_
  refine Run.seq ?_
  refine Run.block ?_
  refine Run.seq ?_
  refine Run.region ?_
  obtain ⟨b_7, o_8, x_11, hx_12, ha_9, hc_10⟩ := ho_4.sl.el (i := 0) (by simp)
  obtain rfl : 8 = x_11 := Option.some.inj hx_12
  refine RL.val (x_idxN Tryz.underlying138 ty24 rfl rfl ha_9 (by simp)) ?_
  refine RL.val (x_ldV (v := .int .i64 (8)) (y := 8) ty24 rfl hc_10 rfl) ?_
  refine RL.val (x_assignI rfl) ?_
  refine RL.nil ?_
  refine Run.seq ?_
  refine Run.region ?_
  refine RL.val (x_move (v := .iface 24 (.int .i64 (1))) rfl) ?_
  refine RL.val (x_moveI rfl) ?_
  refine RL.val (x_mkIfaceI (v := .int .i64 (8)) Tryz.underlying24 rfl) ?_
  refine RL.st rfl <| St1.call (vals := [.iface 24 (.int .i64 (1)), .iface 24 (.int .i64 (8))]) en81 rfl (calls_same (IsE.is_other 1 8 (by decide) _)) ?_
  rintro _ _ ⟨rfl, rfl⟩
  refine RL.nil ?_
  refine Run.condF rfl ?_
  refine Run.skip ?_
  refine Run.inBlock ?_
  refine Run.region ?_
  refine RL.val (litI (c := 1) (x_add rfl rfl (by decide) (by decide)) (by decide)) ?_
  refine RL.val (x_moveI rfl) ?_
  refine RL.nil ?_
  refine Run.inLoop ?_
  refine Run.seq ?_
  refine Run.region ?_
  refine RL.val (litT (x_ltI rfl rfl) (by decide)) ?_
  refine RL.nil ?_
  refine Run.seq ?_
  refine Run.condT rfl ?_
  refine Run.skip ?_
  refine Run.seq ?_
  refine Run.block ?_
  refine Run.seq ?_
  refine Run.region ?_
  obtain ⟨b_13, o_14, x_17, hx_18, ha_15, hc_16⟩ := ho_4.sl.el (i := 1) (by simp)
  obtain rfl : 1 = x_17 := Option.some.inj hx_18
  refine RL.val (x_idxN Tryz.underlying138 ty24 rfl rfl ha_15 (by simp)) ?_
  refine RL.val (x_ldV (v := .int .i64 (1)) (y := 1) ty24 rfl hc_16 rfl) ?_
  refine RL.val (x_assignI rfl) ?_
  refine RL.nil ?_
  refine Run.seq ?_
  refine Run.region ?_
  refine RL.val (x_move (v := .iface 24 (.int .i64 (1))) rfl) ?_
  refine RL.val (x_moveI rfl) ?_
  refine RL.val (x_mkIfaceI (v := .int .i64 (1)) Tryz.underlying24 rfl) ?_
  refine RL.st rfl <| St1.call (vals := [.iface 24 (.int .i64 (1)), .iface 24 (.int .i64 (1))]) en81 rfl (calls_same (IsE.is_same 1 _)) ?_
  rintro _ _ ⟨rfl, rfl⟩
  refine RL.nil ?_
  refine Run.condT rfl ?_
  refine Run.seq ?_
  refine Run.region ?_
  refine RL.val (x_moveI rfl) ?_
  refine RL.val (x_assignI rfl) ?_
  refine RL.nil ?_
  refine Run.ret1 (v := .int .i64 (1)) Tryz.func74 rfl rfl ?_
  exact ⟨_, rfl, rfl, K0⟩

set_option maxRecDepth 100000 in
set_option maxHeartbeats 4000000 in
theorem cutw_ (b pm cm : Nat) (nodes id now : Int) (ts : List Pk) (cs : List LinkC) (l : LinkC) (w : World) (hD : WldO w b pm cm nodes id now ts cs) (hl : l ∉ cs) :
    Calls Tryz.prog 52 #[.pointer (some ⟨b, 0, none⟩), .agg #[.int .i64 ((l).a), .int .i64 ((l).b)]] w (Ret (fun v w' => v = .tuple #[] ∧ WldO w' b pm cm nodes id now ts (cs ++ [l]) ∧ Keeps (wF b pm cm) w w')) := by
  obtain ⟨hB, hP, hC, hM, hn1, hn2, hn3, hsb, hsp, hsc, hok⟩ := hD
  obtain ⟨hno1, hno2⟩ := hok.nodes
  obtain ⟨hnw1, hnw2⟩ := hok.now
  have hid0 := hok.id0
  have hl5 := hok.len
  rw [p_len] at hl5
  have hpl := pents_len ts
  refine calls_run (n := 10) Tryz.func52 rfl rfl rfl ?_
  refine Run.seq ?_
  refine Run.region ?_
  refine RL.st rfl <| St1.box (v := .agg #[.int .i64 ((l).a), .int .i64 ((l).b)]) rfl ?_
  intro b_1 w_2 hl_5 hb_4 K_3
  replace hb_4 : Blk w_2 b_1 [.int .i64 ((l).a), .int .i64 ((l).b)] 92 := hb_4
  have ne_6 : b < b_1 := Nat.lt_of_lt_of_le hB.lt hl_5
  have pr_7 : ¬ one pm b_1 := fun h => absurd (hP.own_lt _ h) (by omega)
  have pr_8 : ¬ one cm b_1 := fun h => absurd (hC.own_lt _ h) (by omega)
  have pr_9 : ¬ mgsS ts b_1 := fun h => absurd (hM.own_lt _ h) (by omega)
  have : w.heap.size ≤ b_1 := hl_5
  clear hl_5
  replace hB := hB.ext K_3
  replace hP := hP.ext K_3
  replace hC := hC.ext K_3
  replace hM := hM.ext K_3
  have K0 := (K_3 : Ext w _).to (S := (wF b pm cm))
  refine RL.nil ?_
  refine Run.drawT [6] (m := 7) (by kernel_rfl) rfl ?_
  intro w_10 K_11
  replace hB := hB.ext K_11
  replace hP := hP.ext K_11
  replace hC := hC.ext K_11
  replace hM := hM.ext K_11
  replace hb_4 := hb_4.ext K_11
  replace K0 := K0.ext K_11
  refine ⟨fun w' => Blk w' b [.int .i64 (nodes), .map (some pm), .map (some cm), .int .i64 (id), .int .i64 (now)] 64 ∧ Blk w' b_1 [.int .i64 ((l).a), .int .i64 ((l).b)] 92 ∧ True, ?_⟩
  refine RT.takeP (v := .pointer (some ⟨b, 0, none⟩)) 0 rfl (by kernel_rfl) (.inr ⟨hB, hb_4, trivial⟩) (fun _ => (x_moveP rfl)) ?_
  refine RT.takeP (v := .pointer (some ⟨b, 0, none⟩)) 1 rfl (by kernel_rfl) (.inr ⟨hB, hb_4, trivial⟩) (fun _ => (x_nilCheck rfl)) ?_
  refine RT.takeP (v := .pointer (some ⟨b, 2, none⟩)) 2 rfl (by kernel_rfl) (.inr ⟨hB, hb_4, trivial⟩) (fun _ => (x_fld (o' := 2) Tryz.underlying64 rfl ty62 rfl rfl rfl)) ?_
  refine RT.take (v := .map (some cm)) 3 rfl (by kernel_rfl) ⟨hB, hb_4, trivial⟩ (by rintro _ ⟨hB, hb_4, -⟩; exact (x_ld (v := .map (some cm)) ty62 rfl rfl (hB.cl.field (i := 2) rfl))) ?_
  refine RT.take (v := .agg #[.int .i64 ((l).a), .int .i64 ((l).b)]) 4 rfl (by kernel_rfl) ⟨hB, hb_4, trivial⟩ (by rintro _ ⟨hB, hb_4, -⟩; exact (x_lds (cs := #[.int .i64 ((l).a), .int .i64 ((l).b)]) ty92 rfl rfl (hb_4.cl.drop 0 2))) ?_
  refine RT.takeP (v := .agg #[]) 5 rfl (by kernel_rfl) (.inr ⟨hB, hb_4, trivial⟩) (fun _ => (x_build (cells := #[]) (by kernel_rfl))) ?_
  refine RT.st 6 rfl (by kernel_rfl) rfl <| St1.mapUpdate (a := l) (v := .agg #[]) Tryz.underlying62 Tryz.underlying92 linkD rfl rfl rfl hC ?_
  intro w_12 hM_13 K_14
  replace hM_13 : MapAt w_12 cm (cents (cs ++ [l])) := (cents_put hl ▸ hM_13)
  replace hB := hB.keep K_14 hn2
  replace hP := hP.keepO K_14 (fun q_ h1 h2 => (cp_of hn3) q_ h2 h1)
  replace hM := hM.keepO K_14 (mp_of hsc)
  replace hb_4 := hb_4.keep K_14 pr_8
  replace K0 := K0.trans K_14 (fun x hlt hx => (fun q_ h_ _ => wf_c q_ h_) x hx hlt)
  replace hC := hM_13
  clear hM_13
  refine ⟨.inl (by kernel_rfl), ?_⟩
  refine RT.done (by kernel_rfl) ?_
  refine Run.fin0 Tryz.func52 rfl ?_
  exact ⟨_, rfl, rfl, ⟨hB, hP, hC, hM, hn1, hn2, hn3, hsb, (fun h_ => (mp_of hsp) _ h_ rfl), (fun h_ => (mp_of hsc) _ h_ rfl), hok⟩, K0⟩

set_option maxRecDepth 100000 in
set_option maxHeartbeats 4000000 in
theorem mendw_ (b pm cm : Nat) (nodes id now : Int) (ts : List Pk) (cs : List LinkC) (l : LinkC) (w : World) (hD : WldO w b pm cm nodes id now ts cs) :
    Calls Tryz.prog 55 #[.pointer (some ⟨b, 0, none⟩), .agg #[.int .i64 ((l).a), .int .i64 ((l).b)]] w (Ret (fun v w' => v = .tuple #[] ∧ WldO w' b pm cm nodes id now ts (cs.erase l) ∧ Keeps (wF b pm cm) w w')) := by
  obtain ⟨hB, hP, hC, hM, hn1, hn2, hn3, hsb, hsp, hsc, hok⟩ := hD
  obtain ⟨hno1, hno2⟩ := hok.nodes
  obtain ⟨hnw1, hnw2⟩ := hok.now
  have hid0 := hok.id0
  have hl5 := hok.len
  rw [p_len] at hl5
  have hpl := pents_len ts
  refine calls_run (n := 9) Tryz.func55 rfl rfl rfl ?_
  refine Run.seq ?_
  refine Run.region ?_
  refine RL.st rfl <| St1.box (v := .agg #[.int .i64 ((l).a), .int .i64 ((l).b)]) rfl ?_
  intro b_1 w_2 hl_5 hb_4 K_3
  replace hb_4 : Blk w_2 b_1 [.int .i64 ((l).a), .int .i64 ((l).b)] 92 := hb_4
  have ne_6 : b < b_1 := Nat.lt_of_lt_of_le hB.lt hl_5
  have pr_7 : ¬ one pm b_1 := fun h => absurd (hP.own_lt _ h) (by omega)
  have pr_8 : ¬ one cm b_1 := fun h => absurd (hC.own_lt _ h) (by omega)
  have pr_9 : ¬ mgsS ts b_1 := fun h => absurd (hM.own_lt _ h) (by omega)
  have : w.heap.size ≤ b_1 := hl_5
  clear hl_5
  replace hB := hB.ext K_3
  replace hP := hP.ext K_3
  replace hC := hC.ext K_3
  replace hM := hM.ext K_3
  have K0 := (K_3 : Ext w _).to (S := (wF b pm cm))
  refine RL.nil ?_
  refine Run.drawT [] (m := 6) (by kernel_rfl) rfl ?_
  intro w_10 K_11
  replace hB := hB.ext K_11
  replace hP := hP.ext K_11
  replace hC := hC.ext K_11
  replace hM := hM.ext K_11
  replace hb_4 := hb_4.ext K_11
  replace K0 := K0.ext K_11
  refine ⟨fun w' => Blk w' b [.int .i64 (nodes), .map (some pm), .map (some cm), .int .i64 (id), .int .i64 (now)] 64 ∧ Blk w' b_1 [.int .i64 ((l).a), .int .i64 ((l).b)] 92 ∧ True, ?_⟩
  refine RT.takeP (v := .pointer (some ⟨b, 0, none⟩)) 0 rfl (by kernel_rfl) (.inr ⟨hB, hb_4, trivial⟩) (fun _ => (x_moveP rfl)) ?_
  refine RT.takeP (v := .pointer (some ⟨b, 0, none⟩)) 1 rfl (by kernel_rfl) (.inr ⟨hB, hb_4, trivial⟩) (fun _ => (x_nilCheck rfl)) ?_
  refine RT.takeP (v := .pointer (some ⟨b, 2, none⟩)) 2 rfl (by kernel_rfl) (.inr ⟨hB, hb_4, trivial⟩) (fun _ => (x_fld (o' := 2) Tryz.underlying64 rfl ty62 rfl rfl rfl)) ?_
  refine RT.take (v := .map (some cm)) 3 rfl (by kernel_rfl) ⟨hB, hb_4, trivial⟩ (by rintro _ ⟨hB, hb_4, -⟩; exact (x_ld (v := .map (some cm)) ty62 rfl rfl (hB.cl.field (i := 2) rfl))) ?_
  refine RT.take (v := .agg #[.int .i64 ((l).a), .int .i64 ((l).b)]) 4 rfl (by kernel_rfl) ⟨hB, hb_4, trivial⟩ (by rintro _ ⟨hB, hb_4, -⟩; exact (x_lds (cs := #[.int .i64 ((l).a), .int .i64 ((l).b)]) ty92 rfl rfl (hb_4.cl.drop 0 2))) ?_
  refine RT.st 5 rfl (by kernel_rfl) rfl <| St1.deleteMap (a := l) Tryz.underlying62 Tryz.underlying92 linkD rfl rfl hC ?_
  intro w_12 hM_13 K_14
  replace hM_13 : MapAt w_12 cm (cents (cs.erase (l))) := (cents_del _ ▸ hM_13)
  replace hB := hB.keep K_14 hn2
  replace hP := hP.keepO K_14 (fun q_ h1 h2 => (cp_of hn3) q_ h2 h1)
  replace hM := hM.keepO K_14 (mp_of hsc)
  replace hb_4 := hb_4.keep K_14 pr_8
  replace K0 := K0.trans K_14 (fun x hlt hx => (fun q_ h_ _ => wf_c q_ h_) x hx hlt)
  replace hC := hM_13
  clear hM_13
  refine ⟨.inr ⟨hB, hb_4, trivial⟩, ?_⟩
  refine RT.done (by kernel_rfl) ?_
  refine Run.fin0 Tryz.func55 rfl ?_
  exact ⟨_, rfl, rfl, ⟨hB, hP, hC, hM, hn1, hn2, hn3, hsb, (fun h_ => (mp_of hsp) _ h_ rfl), (fun h_ => (mp_of hsc) _ h_ rfl), hok⟩, K0⟩

set_option maxRecDepth 100000 in
set_option maxHeartbeats 4000000 in
theorem turnCNil (x y : Int) (w : World) :
    Calls Tryz.prog 51 #[.pointer none, .int .i64 (x), .int .i64 (y), .bool (true), .func (.func 52) #[] #[]] w (Ret (fun v w' => v = .int .i64 8 ∧ Ext w w')) := by
  refine calls_run (n := 42) Tryz.func51 rfl rfl rfl ?_
  refine Run.seq ?_
  refine Run.region ?_
  refine RL.val (x_assignI rfl) ?_
  refine RL.nil ?_
  refine Run.seq ?_
  refine Run.region ?_
  refine RL.val (x_moveP rfl) ?_
  refine RL.val (x_moveI rfl) ?_
  refine RL.val (x_moveI rfl) ?_
  refine RL.st rfl <| St1.call (vals := [.pointer none, .int .i64 (x), .int .i64 (y)]) en40 rfl (betweenNil _ _ _) ?_
  rintro _ w_1 ⟨rfl, K_2⟩
  have K0 := (K_2 : Ext w _)
  refine RL.val (x_moveT rfl) ?_
  refine RL.val (x_extract rfl rfl) ?_
  refine RL.val (x_extract rfl rfl) ?_
  refine RL.st rfl <| St1.alloc ty92 ?_
  intro b_3 w_4 hl_7 hb_6 K_5
  replace hb_6 : Blk w_4 b_3 [.int .i64 (0), .int .i64 (0)] 92 := hb_6
  have : w.heap.size ≤ b_3 := Nat.le_trans K0.size hl_7
  clear hl_7
  replace K0 := K0.ext K_5
  refine RL.st rfl <| St1.store (v := .agg #[.int .i64 (0), .int .i64 (0)]) ty92 rfl rfl rfl (by simp [Value.cells, Value.oneCell']) hb_6 (by simp) ?_
  intro w_8 hb_6_ K_9
  have hb_6' : Blk w_8 b_3 [.int .i64 (0), .int .i64 (0)] 92 := hb_6_
  clear hb_6_
  replace K0 := K0.new K_9 (fun x hx => by simp only [one] at hx; omega)
  replace hb_6 := hb_6'
  clear hb_6'
  refine RL.val (x_assign (v := .iface 24 (.int .i64 (8))) rfl) ?_
  refine RL.nil ?_
  refine Run.seq ?_
  refine Run.seq ?_
  refine Run.region ?_
  refine RL.val (x_move (v := .iface 24 (.int .i64 (8))) rfl) ?_
  refine RL.val (x_neIN (by kernel_rfl) rfl rfl) ?_
  refine RL.nil ?_
  refine Run.condT rfl ?_
  refine Run.seq ?_
  refine Run.region ?_
  refine RL.val (x_move (v := .iface 24 (.int .i64 (8))) rfl) ?_
  refine RL.st rfl <| St1.call (vals := [.iface 24 (.int .i64 (8))]) en74 rfl (number8 _) ?_
  rintro _ w_10 ⟨rfl, K_11⟩
  replace hb_6 := hb_6.ext K_11
  replace K0 := K0.ext K_11
  refine RL.val (x_assignI rfl) ?_
  refine RL.nil ?_
  refine Run.ret1 (v := .int .i64 (8)) Tryz.func51 rfl rfl ?_
  exact ⟨_, rfl, rfl, K0⟩

set_option maxRecDepth 100000 in
set_option maxHeartbeats 4000000 in
theorem turnCZero (b : Nat) (x y : Int) (w : World) (hB : Blk w b [.int .i64 0, .map none, .map none, .int .i64 0, .int .i64 0] 64) :
    Calls Tryz.prog 51 #[.pointer (some ⟨b, 0, none⟩), .int .i64 (x), .int .i64 (y), .bool (true), .func (.func 52) #[] #[]] w (Ret (fun v w' => v = .int .i64 8 ∧ Ext w w')) := by
  refine calls_run (n := 42) Tryz.func51 rfl rfl rfl ?_
  refine Run.seq ?_
  refine Run.region ?_
  refine RL.val (x_assignI rfl) ?_
  refine RL.nil ?_
  refine Run.seq ?_
  refine Run.region ?_
  refine RL.val (x_moveP rfl) ?_
  refine RL.val (x_moveI rfl) ?_
  refine RL.val (x_moveI rfl) ?_
  refine RL.st rfl <| St1.call (vals := [.pointer (some ⟨b, 0, none⟩), .int .i64 (x), .int .i64 (y)]) en40 rfl (betweenZero _ _ _ _ hB) ?_
  rintro _ w_1 ⟨rfl, K_2⟩
  replace hB := hB.ext K_2
  have K0 := (K_2 : Ext w _)
  refine RL.val (x_moveT rfl) ?_
  refine RL.val (x_extract rfl rfl) ?_
  refine RL.val (x_extract rfl rfl) ?_
  refine RL.st rfl <| St1.alloc ty92 ?_
  intro b_3 w_4 hl_7 hb_6 K_5
  replace hb_6 : Blk w_4 b_3 [.int .i64 (0), .int .i64 (0)] 92 := hb_6
  have ne_8 : b < b_3 := Nat.lt_of_lt_of_le hB.lt hl_7
  have : w.heap.size ≤ b_3 := Nat.le_trans K0.size hl_7
  clear hl_7
  replace hB := hB.ext K_5
  replace K0 := K0.ext K_5
  refine RL.st rfl <| St1.store (v := .agg #[.int .i64 (0), .int .i64 (0)]) ty92 rfl rfl rfl (by simp [Value.cells, Value.oneCell']) hb_6 (by simp) ?_
  intro w_9 hb_6_ K_10
  have hb_6' : Blk w_9 b_3 [.int .i64 (0), .int .i64 (0)] 92 := hb_6_
  clear hb_6_
  replace hB := hB.keep K_10 (by simp only [one]; omega)
  replace K0 := K0.new K_10 (fun x hx => by simp only [one] at hx; omega)
  replace hb_6 := hb_6'
  clear hb_6'
  refine RL.val (x_assign (v := .iface 24 (.int .i64 (8))) rfl) ?_
  refine RL.nil ?_
  refine Run.seq ?_
  refine Run.seq ?_
  refine Run.region ?_
  refine RL.val (x_move (v := .iface 24 (.int .i64 (8))) rfl) ?_
  refine RL.val (x_neIN (by kernel_rfl) rfl rfl) ?_
  refine RL.nil ?_
  refine Run.condT rfl ?_
  refine Run.seq ?_
  refine Run.region ?_
  refine RL.val (x_move (v := .iface 24 (.int .i64 (8))) rfl) ?_
  refine RL.st rfl <| St1.call (vals := [.iface 24 (.int .i64 (8))]) en74 rfl (number8 _) ?_
  rintro _ w_11 ⟨rfl, K_12⟩
  replace hB := hB.ext K_12
  replace hb_6 := hb_6.ext K_12
  replace K0 := K0.ext K_12
  refine RL.val (x_assignI rfl) ?_
  refine RL.nil ?_
  refine Run.ret1 (v := .int .i64 (8)) Tryz.func51 rfl rfl ?_
  exact ⟨_, rfl, rfl, K0⟩

set_option maxRecDepth 100000 in
set_option maxHeartbeats 4000000 in
theorem turnC_ (b pm cm : Nat) (nodes id now : Int) (ts : List Pk) (cs : List LinkC) (x y : Int) (w : World) (hD : WldO w b pm cm nodes id now ts cs) :
    Calls Tryz.prog 51 #[.pointer (some ⟨b, 0, none⟩), .int .i64 (x), .int .i64 (y), .bool (true), .func (.func 52) #[] #[]] w (Ret (fun v w' => v = .int .i64 (cutE nodes cs x y) ∧ WldO w' b pm cm nodes id now ts (cutL nodes cs x y) ∧ Keeps (wF b pm cm) w w')) := by
  obtain ⟨hB, hP, hC, hM, hn1, hn2, hn3, hsb, hsp, hsc, hok⟩ := hD
  obtain ⟨hno1, hno2⟩ := hok.nodes
  obtain ⟨hnw1, hnw2⟩ := hok.now
  have hid0 := hok.id0
  have hl5 := hok.len
  rw [p_len] at hl5
  have hpl := pents_len ts
  refine calls_run (n := 42) Tryz.func51 rfl rfl rfl ?_
  refine Run.seq ?_
  refine Run.region ?_
  refine RL.val (x_assignI rfl) ?_
  refine RL.nil ?_
  refine Run.seq ?_
  refine Run.region ?_
  refine RL.val (x_moveP rfl) ?_
  refine RL.val (x_moveI rfl) ?_
  refine RL.val (x_moveI rfl) ?_
  refine RL.st rfl <| St1.call (vals := [.pointer (some ⟨b, 0, none⟩), .int .i64 (x), .int .i64 (y)]) en40 rfl (between_ b pm cm nodes id now ts cs x y _ (⟨hB, hP, hC, hM, hn1, hn2, hn3, hsb, (fun h_ => (mp_of hsp) _ h_ rfl), (fun h_ => (mp_of hsc) _ h_ rfl), hok⟩ : WldO _ b pm cm nodes id now ts cs)) ?_
  rintro _ w_1 (⟨htw_2, rfl, K_3⟩ | ⟨htw_2, rfl, K_3⟩)
  · replace hB := hB.ext K_3
    replace hP := hP.ext K_3
    replace hC := hC.ext K_3
    replace hM := hM.ext K_3
    have K0 := (K_3 : Ext w _).to (S := (wF b pm cm))
    refine RL.val (x_moveT rfl) ?_
    refine RL.val (x_extract rfl rfl) ?_
    refine RL.val (x_extract rfl rfl) ?_
    refine RL.st rfl <| St1.alloc ty92 ?_
    intro b_4 w_5 hl_8 hb_7 K_6
    replace hb_7 : Blk w_5 b_4 [.int .i64 (0), .int .i64 (0)] 92 := hb_7
    have ne_9 : b < b_4 := Nat.lt_of_lt_of_le hB.lt hl_8
    have pr_10 : ¬ one pm b_4 := fun h => absurd (hP.own_lt _ h) (by omega)
    have pr_11 : ¬ one cm b_4 := fun h => absurd (hC.own_lt _ h) (by omega)
    have pr_12 : ¬ mgsS ts b_4 := fun h => absurd (hM.own_lt _ h) (by omega)
    have : w.heap.size ≤ b_4 := Nat.le_trans K0.size hl_8
    clear hl_8
    replace hB := hB.ext K_6
    replace hP := hP.ext K_6
    replace hC := hC.ext K_6
    replace hM := hM.ext K_6
    replace K0 := K0.ext K_6
    refine RL.st rfl <| St1.store (v := .agg #[.int .i64 (0), .int .i64 (0)]) ty92 rfl rfl rfl (by simp [Value.cells, Value.oneCell']) hb_7 (by simp) ?_
    intro w_13 hb_7_ K_14
    have hb_7' : Blk w_13 b_4 [.int .i64 (0), .int .i64 (0)] 92 := hb_7_
    clear hb_7_
    replace hB := hB.keep K_14 (by simp only [one]; omega)
    replace hP := hP.keepO K_14 (fun q_ hq_ eq_ => pr_10 (by simp only [one] at eq_; rw [← eq_]; exact hq_))
    replace hC := hC.keepO K_14 (fun q_ hq_ eq_ => pr_11 (by simp only [one] at eq_; rw [← eq_]; exact hq_))
    replace hM := hM.keepO K_14 (fun q_ hq_ eq_ => pr_12 (by simp only [one] at eq_; rw [← eq_]; exact hq_))
    replace K0 := K0.trans K_14 (fun x hlt hx => absurd hlt (by simp only [one] at hx; omega))
    replace hb_7 := hb_7'
    clear hb_7'
    refine RL.val (x_assign (v := .iface 24 (.int .i64 (1))) rfl) ?_
    refine RL.nil ?_
    refine Run.seq ?_
    refine Run.seq ?_
    refine Run.region ?_
    refine RL.val (x_move (v := .iface 24 (.int .i64 (1))) rfl) ?_
    refine RL.val (x_neIN (by kernel_rfl) rfl rfl) ?_
    refine RL.nil ?_
    refine Run.condT rfl ?_
    refine Run.seq ?_
    refine Run.region ?_
    refine RL.val (x_move (v := .iface 24 (.int .i64 (1))) rfl) ?_
    refine RL.st rfl <| St1.call (vals := [.iface 24 (.int .i64 (1))]) en74 rfl (number1 _) ?_
    rintro _ w_15 ⟨rfl, K_16⟩
    replace hB := hB.ext K_16
    replace hP := hP.ext K_16
    replace hC := hC.ext K_16
    replace hM := hM.ext K_16
    replace hb_7 := hb_7.ext K_16
    replace K0 := K0.ext K_16
    refine RL.val (x_assignI rfl) ?_
    refine RL.nil ?_
    refine Run.ret1 (v := .int .i64 (1)) Tryz.func51 rfl rfl ?_
    have e := cut_two (cs := cs) htw_2
    rw [e.1, e.2]
    exact ⟨_, rfl, rfl, ⟨hB, hP, hC, hM, hn1, hn2, hn3, hsb, (fun h_ => (mp_of hsp) _ h_ rfl), (fun h_ => (mp_of hsc) _ h_ rfl), hok⟩, K0⟩
  · replace hB := hB.ext K_3
    replace hP := hP.ext K_3
    replace hC := hC.ext K_3
    replace hM := hM.ext K_3
    have K0 := (K_3 : Ext w _).to (S := (wF b pm cm))
    refine RL.val (x_moveT rfl) ?_
    refine RL.val (x_extract rfl rfl) ?_
    refine RL.val (x_extract rfl rfl) ?_
    refine RL.st rfl <| St1.alloc ty92 ?_
    intro b_17 w_18 hl_21 hb_20 K_19
    replace hb_20 : Blk w_18 b_17 [.int .i64 (0), .int .i64 (0)] 92 := hb_20
    have ne_22 : b < b_17 := Nat.lt_of_lt_of_le hB.lt hl_21
    have pr_23 : ¬ one pm b_17 := fun h => absurd (hP.own_lt _ h) (by omega)
    have pr_24 : ¬ one cm b_17 := fun h => absurd (hC.own_lt _ h) (by omega)
    have pr_25 : ¬ mgsS ts b_17 := fun h => absurd (hM.own_lt _ h) (by omega)
    have : w.heap.size ≤ b_17 := Nat.le_trans K0.size hl_21
    clear hl_21
    replace hB := hB.ext K_19
    replace hP := hP.ext K_19
    replace hC := hC.ext K_19
    replace hM := hM.ext K_19
    replace K0 := K0.ext K_19
    refine RL.st rfl <| St1.store (v := .agg #[.int .i64 (min x y), .int .i64 (max x y)]) ty92 rfl rfl rfl (by simp [Value.cells, Value.oneCell']) hb_20 (by simp) ?_
    intro w_26 hb_20_ K_27
    have hb_20' : Blk w_26 b_17 [.int .i64 (min x y), .int .i64 (max x y)] 92 := hb_20_
    clear hb_20_
    replace hB := hB.keep K_27 (by simp only [one]; omega)
    replace hP := hP.keepO K_27 (fun q_ hq_ eq_ => pr_23 (by simp only [one] at eq_; rw [← eq_]; exact hq_))
    replace hC := hC.keepO K_27 (fun q_ hq_ eq_ => pr_24 (by simp only [one] at eq_; rw [← eq_]; exact hq_))
    replace hM := hM.keepO K_27 (fun q_ hq_ eq_ => pr_25 (by simp only [one] at eq_; rw [← eq_]; exact hq_))
    replace K0 := K0.trans K_27 (fun x hlt hx => absurd hlt (by simp only [one] at hx; omega))
    replace hb_20 := hb_20'
    clear hb_20'
    refine RL.val (x_assign (v := .nilIface) rfl) ?_
    refine RL.nil ?_
    refine Run.seq ?_
    refine Run.seq ?_
    refine Run.region ?_
    refine RL.val (x_move (v := .nilIface) rfl) ?_
    refine RL.val (x_neNN (by kernel_rfl) rfl rfl) ?_
    refine RL.nil ?_
    refine Run.condF rfl ?_
    refine Run.skip ?_
    refine Run.seq ?_
    refine Run.seq ?_
    refine Run.drawT [] (m := 12) (by kernel_rfl) rfl ?_
    intro w_28 K_29
    replace hB := hB.ext K_29
    replace hP := hP.ext K_29
    replace hC := hC.ext K_29
    replace hM := hM.ext K_29
    replace hb_20 := hb_20.ext K_29
    replace K0 := K0.ext K_29
    refine ⟨fun w' => Blk w' b [.int .i64 (nodes), .map (some pm), .map (some cm), .int .i64 (id), .int .i64 (now)] 64 ∧ MapAt w' cm (cents cs) ∧ Blk w' b_17 [.int .i64 (min x y), .int .i64 (max x y)] 92 ∧ True, ?_⟩
    refine RT.takeP (v := .pointer (some ⟨b, 0, none⟩)) 0 rfl (by kernel_rfl) (.inr ⟨hB, hC, hb_20, trivial⟩) (fun _ => (x_moveP rfl)) ?_
    refine RT.takeP (v := .pointer (some ⟨b, 0, none⟩)) 1 rfl (by kernel_rfl) (.inr ⟨hB, hC, hb_20, trivial⟩) (fun _ => (x_nilCheck rfl)) ?_
    refine RT.takeP (v := .pointer (some ⟨b, 2, none⟩)) 2 rfl (by kernel_rfl) (.inr ⟨hB, hC, hb_20, trivial⟩) (fun _ => (x_fld (o' := 2) Tryz.underlying64 rfl ty62 rfl rfl rfl)) ?_
    refine RT.take (v := .map (some cm)) 3 rfl (by kernel_rfl) ⟨hB, hC, hb_20, trivial⟩ (by rintro _ ⟨hB, hC, hb_20, -⟩; exact (x_ld (v := .map (some cm)) ty62 rfl rfl (hB.cl.field (i := 2) rfl))) ?_
    refine RT.take (v := .agg #[.int .i64 (min x y), .int .i64 (max x y)]) 4 rfl (by kernel_rfl) ⟨hB, hC, hb_20, trivial⟩ (by rintro _ ⟨hB, hC, hb_20, -⟩; exact (x_lds (cs := #[.int .i64 (min x y), .int .i64 (max x y)]) ty92 rfl rfl (hb_20.cl.drop 0 2))) ?_
    refine RT.take (v := .tuple #[.agg #[], .bool (decide (lk x y ∈ cs))]) 5 rfl (by kernel_rfl) ⟨hB, hC, hb_20, trivial⟩ (by rintro _ ⟨hB, hC, hb_20, -⟩; exact (litV (v' := .tuple #[.agg #[], .bool (decide (lk x y ∈ cs))]) (x_lookupOk (a := lk x y) Tryz.underlying62 Tryz.underlying92 linkD ty111 rfl rfl hC) (by rw [cget]; split <;> rename_i h_ <;> simp [h_]))) ?_
    refine RT.takeP (v := .tuple #[.agg #[], .bool (decide (lk x y ∈ cs))]) 6 rfl (by kernel_rfl) (.inr ⟨hB, hC, hb_20, trivial⟩) (fun _ => (x_moveT rfl)) ?_
    refine RT.takeP (v := .agg #[]) 7 rfl (by kernel_rfl) (.inr ⟨hB, hC, hb_20, trivial⟩) (fun _ => (x_extract rfl rfl)) ?_
    refine RT.takeP (v := .bool (decide (lk x y ∈ cs))) 8 rfl (by kernel_rfl) (.inr ⟨hB, hC, hb_20, trivial⟩) (fun _ => (x_extract rfl rfl)) ?_
    refine RT.st 9 rfl (by kernel_rfl) rfl <| St1.alloc ty111 ?_
    intro b_30 w_31 hl_34 hb_33 K_32
    replace hb_33 : Blk w_31 b_30 [] 111 := hb_33
    have ne_35 : b < b_30 := Nat.lt_of_lt_of_le hB.lt hl_34
    have ne_36 : b_17 < b_30 := Nat.lt_of_lt_of_le hb_20.lt hl_34
    have pr_37 : ¬ one pm b_30 := fun h => absurd (hP.own_lt _ h) (by omega)
    have pr_38 : ¬ one cm b_30 := fun h => absurd (hC.own_lt _ h) (by omega)
    have pr_39 : ¬ mgsS ts b_30 := fun h => absurd (hM.own_lt _ h) (by omega)
    have : w.heap.size ≤ b_30 := Nat.le_trans K0.size hl_34
    clear hl_34
    replace hB := hB.ext K_32
    replace hP := hP.ext K_32
    replace hC := hC.ext K_32
    replace hM := hM.ext K_32
    replace hb_20 := hb_20.ext K_32
    replace K0 := K0.ext K_32
    refine ⟨.inr ⟨hB, hC, hb_20, trivial⟩, ?_⟩
    refine RT.st 10 rfl (by kernel_rfl) rfl <| St1.store (v := .agg #[]) ty111 rfl rfl rfl (by simp [Value.cells, Value.oneCell']) hb_33 (by simp) ?_
    intro w_40 hb_33_ K_41
    have hb_33' : Blk w_40 b_30 [] 111 := hb_33_
    clear hb_33_
    replace hB := hB.keep K_41 (by simp only [one]; omega)
    replace hP := hP.keepO K_41 (fun q_ hq_ eq_ => pr_37 (by simp only [one] at eq_; rw [← eq_]; exact hq_))
    replace hC := hC.keepO K_41 (fun q_ hq_ eq_ => pr_38 (by simp only [one] at eq_; rw [← eq_]; exact hq_))
    replace hM := hM.keepO K_41 (fun q_ hq_ eq_ => pr_39 (by simp only [one] at eq_; rw [← eq_]; exact hq_))
    replace hb_20 := hb_20.keep K_41 (by simp only [one]; omega)
    replace K0 := K0.trans K_41 (fun x hlt hx => absurd hlt (by simp only [one] at hx; omega))
    replace hb_33 := hb_33'
    clear hb_33'
    refine ⟨.inr ⟨hB, hC, hb_20, trivial⟩, ?_⟩
    refine RT.takeP (v := .bool (decide (lk x y ∈ cs))) 11 rfl (by kernel_rfl) (.inr ⟨hB, hC, hb_20, trivial⟩) (fun _ => (x_assignB rfl)) ?_
    refine RT.done (by kernel_rfl) ?_
    refine Run.seq ?_
    refine Run.region ?_
    refine RL.val (x_moveB rfl) ?_
    refine RL.val (x_moveB rfl) ?_
    refine RL.val (x_eqB Tryz.underlying4 rfl rfl) ?_
    refine RL.nil ?_
    refine Run.cond rfl (fun hc37 => ?_) (fun hc37 => ?_)
    · try simp only [br] at hc37
      refine Run.seq ?_
      refine Run.region ?_
      refine RL.val (x_assignI rfl) ?_
      refine RL.nil ?_
      refine Run.ret1 (v := .int .i64 (220)) Tryz.func51 rfl rfl ?_
      have e := cut_is (cs := cs) htw_2 (by first | exact hc37 | simpa using hc37)
      rw [e.1, e.2]
      exact ⟨_, rfl, rfl, ⟨hB, hP, hC, hM, hn1, hn2, hn3, hsb, (fun h_ => (mp_of hsp) _ h_ rfl), (fun h_ => (mp_of hsc) _ h_ rfl), hok⟩, K0⟩
    · try simp only [br] at hc37
      refine Run.skip ?_
      refine Run.seq ?_
      have hnm : ¬ lk x y ∈ cs := by first | exact hc37 | simpa using hc37
      refine Run.region ?_
      refine RL.val (x_moveF rfl) ?_
      refine RL.val (x_moveP rfl) ?_
      refine RL.val (x_lds (cs := #[.int .i64 (min x y), .int .i64 (max x y)]) ty92 rfl rfl (hb_20.cl.drop 0 2)) ?_
      refine RL.st rfl <| St1.callV (vals := [.pointer (some ⟨b, 0, none⟩), .agg #[.int .i64 (min x y), .int .i64 (max x y)]]) en52 rfl rfl (cutw_ b pm cm nodes id now ts cs (⟨min x y, max x y⟩ : LinkC) _ (⟨hB, hP, hC, hM, hn1, hn2, hn3, hsb, (fun h_ => (mp_of hsp) _ h_ rfl), (fun h_ => (mp_of hsc) _ h_ rfl), hok⟩ : WldO _ b pm cm nodes id now ts cs) (by assumption)) ?_
      rintro _ w_42 ⟨rfl, hD_43, K_44⟩
      have pr_46 : ∀ q_, wF b pm cm q_ → ¬ mgsS ts q_ := fun q_ x_ z_ => ((fun q_ h_ => show q_ = b ∨ (q_ = pm ∨ q_ = cm) from h_) _ x_).elim (fun e_ => hsb (show mgsS ts b from e_ ▸ z_)) (fun y_ => y_.elim (fun y_ => (fun q_ h1 h2 => (mp_of hsp) q_ h2 h1) q_ y_ z_) (fun y_ => (fun y_ => (fun q_ h1 h2 => (mp_of hsc) q_ h2 h1) q_ y_ z_) y_))
      have pr_47 : ¬ wF b pm cm b_17 := fun x_ => ((fun q_ h_ => show q_ = b ∨ (q_ = pm ∨ q_ = cm) from h_) _ x_).elim (fun e_ => absurd e_ (by omega)) (fun y_ => y_.elim pr_23 (fun y_ => pr_24 y_))
      have pr_48 : ¬ wF b pm cm b_30 := fun x_ => ((fun q_ h_ => show q_ = b ∨ (q_ = pm ∨ q_ = cm) from h_) _ x_).elim (fun e_ => absurd e_ (by omega)) (fun y_ => y_.elim pr_37 (fun y_ => pr_38 y_))
      have pg_49 : ∀ q_, wF b pm cm q_ → q_ < w.heap.size → (wF b pm cm) q_ := fun q_ x_ hl_ => ((fun q_ h_ => show q_ = b ∨ (q_ = pm ∨ q_ = cm) from h_) _ x_).elim (fun e_ => e_ ▸ wf_b) (fun y_ => y_.elim (fun y_ => (fun q_ h_ _ => wf_p q_ h_) q_ y_ hl_) (fun y_ => (fun y_ => (fun q_ h_ _ => wf_c q_ h_) q_ y_ hl_) y_))
      replace hM := hM.keepO K_44 (fun q_ h1 h2 => pr_46 q_ h2 h1)
      replace hb_20 := hb_20.keep K_44 pr_47
      replace hb_33 := hb_33.keep K_44 pr_48
      replace K0 := K0.trans K_44 (fun x hlt hx => pg_49 x hx hlt)
      replace hB := hD_43.blk
      replace hP := hD_43.pk
      replace hC := hD_43.cu
      replace hok := hD_43.ok
      have pr_50 : ¬ mgsS ts b := fun h_ => pr_46 _ wf_b h_
      have ne_51 : b ≠ b_17 := fun e_ => pr_47 (by rw [← e_]; exact wf_b)
      have ne_52 : b ≠ b_30 := fun e_ => pr_48 (by rw [← e_]; exact wf_b)
      have if_53 : b < w.heap.size → (wF b pm cm) b := fun hl_ => pg_49 _ wf_b hl_
      have pr_54 : ∀ q_, one pm q_ → ¬ mgsS ts q_ := fun q_ h_ => pr_46 q_ (wf_p q_ h_)
      have pr_55 : ¬ one pm b_17 := fun h_ => pr_47 (wf_p _ h_)
      have pr_56 : ¬ one pm b_30 := fun h_ => pr_48 (wf_p _ h_)
      have pr_57 : ∀ q_, one cm q_ → ¬ mgsS ts q_ := fun q_ h_ => pr_46 q_ (wf_c q_ h_)
      have pr_58 : ¬ one cm b_17 := fun h_ => pr_47 (wf_c _ h_)
      have pr_59 : ¬ one cm b_30 := fun h_ => pr_48 (wf_c _ h_)
      refine RL.nil ?_
      refine Run.seq ?_
      refine Run.region ?_
      refine RL.val (x_assignI rfl) ?_
      refine RL.nil ?_
      refine Run.ret1 (v := .int .i64 (0)) Tryz.func51 rfl rfl ?_
      have e := cut_ok (cs := cs) htw_2 (by first | exact hc37 | simpa using hc37)
      rw [e.1, e.2]
      exact ⟨_, rfl, rfl, ⟨hB, hP, hC, hM, hn1, hn2, hn3, pr_50, (fun h_ => (mp_of hsp) _ h_ rfl), (fun h_ => (mp_of hsc) _ h_ rfl), hok⟩, K0⟩

set_option maxRecDepth 100000 in
set_option maxHeartbeats 4000000 in
theorem turnMNil (x y : Int) (w : World) :
    Calls Tryz.prog 51 #[.pointer none, .int .i64 (x), .int .i64 (y), .bool (false), .func (.func 55) #[] #[]] w (Ret (fun v w' => v = .int .i64 8 ∧ Ext w w')) := by
  refine calls_run (n := 42) Tryz.func51 rfl rfl rfl ?_
  refine Run.seq ?_
  refine Run.region ?_
  refine RL.val (x_assignI rfl) ?_
  refine RL.nil ?_
  refine Run.seq ?_
  refine Run.region ?_
  refine RL.val (x_moveP rfl) ?_
  refine RL.val (x_moveI rfl) ?_
  refine RL.val (x_moveI rfl) ?_
  refine RL.st rfl <| St1.call (vals := [.pointer none, .int .i64 (x), .int .i64 (y)]) en40 rfl (betweenNil _ _ _) ?_
  rintro _ w_1 ⟨rfl, K_2⟩
  have K0 := (K_2 : Ext w _)
  refine RL.val (x_moveT rfl) ?_
  refine RL.val (x_extract rfl rfl) ?_
  refine RL.val (x_extract rfl rfl) ?_
  refine RL.st rfl <| St1.alloc ty92 ?_
  intro b_3 w_4 hl_7 hb_6 K_5
  replace hb_6 : Blk w_4 b_3 [.int .i64 (0), .int .i64 (0)] 92 := hb_6
  have : w.heap.size ≤ b_3 := Nat.le_trans K0.size hl_7
  clear hl_7
  replace K0 := K0.ext K_5
  refine RL.st rfl <| St1.store (v := .agg #[.int .i64 (0), .int .i64 (0)]) ty92 rfl rfl rfl (by simp [Value.cells, Value.oneCell']) hb_6 (by simp) ?_
  intro w_8 hb_6_ K_9
  have hb_6' : Blk w_8 b_3 [.int .i64 (0), .int .i64 (0)] 92 := hb_6_
  clear hb_6_
  replace K0 := K0.new K_9 (fun x hx => by simp only [one] at hx; omega)
  replace hb_6 := hb_6'
  clear hb_6'
  refine RL.val (x_assign (v := .iface 24 (.int .i64 (8))) rfl) ?_
  refine RL.nil ?_
  refine Run.seq ?_
  refine Run.seq ?_
  refine Run.region ?_
  refine RL.val (x_move (v := .iface 24 (.int .i64 (8))) rfl) ?_
  refine RL.val (x_neIN (by kernel_rfl) rfl rfl) ?_
  refine RL.nil ?_
  refine Run.condT rfl ?_
  refine Run.seq ?_
  refine Run.region ?_
  refine RL.val (x_move (v := .iface 24 (.int .i64 (8))) rfl) ?_
  refine RL.st rfl <| St1.call (vals := [.iface 24 (.int .i64 (8))]) en74 rfl (number8 _) ?_
  rintro _ w_10 ⟨rfl, K_11⟩
  replace hb_6 := hb_6.ext K_11
  replace K0 := K0.ext K_11
  refine RL.val (x_assignI rfl) ?_
  refine RL.nil ?_
  refine Run.ret1 (v := .int .i64 (8)) Tryz.func51 rfl rfl ?_
  exact ⟨_, rfl, rfl, K0⟩

set_option maxRecDepth 100000 in
set_option maxHeartbeats 4000000 in
theorem turnMZero (b : Nat) (x y : Int) (w : World) (hB : Blk w b [.int .i64 0, .map none, .map none, .int .i64 0, .int .i64 0] 64) :
    Calls Tryz.prog 51 #[.pointer (some ⟨b, 0, none⟩), .int .i64 (x), .int .i64 (y), .bool (false), .func (.func 55) #[] #[]] w (Ret (fun v w' => v = .int .i64 8 ∧ Ext w w')) := by
  refine calls_run (n := 42) Tryz.func51 rfl rfl rfl ?_
  refine Run.seq ?_
  refine Run.region ?_
  refine RL.val (x_assignI rfl) ?_
  refine RL.nil ?_
  refine Run.seq ?_
  refine Run.region ?_
  refine RL.val (x_moveP rfl) ?_
  refine RL.val (x_moveI rfl) ?_
  refine RL.val (x_moveI rfl) ?_
  refine RL.st rfl <| St1.call (vals := [.pointer (some ⟨b, 0, none⟩), .int .i64 (x), .int .i64 (y)]) en40 rfl (betweenZero _ _ _ _ hB) ?_
  rintro _ w_1 ⟨rfl, K_2⟩
  replace hB := hB.ext K_2
  have K0 := (K_2 : Ext w _)
  refine RL.val (x_moveT rfl) ?_
  refine RL.val (x_extract rfl rfl) ?_
  refine RL.val (x_extract rfl rfl) ?_
  refine RL.st rfl <| St1.alloc ty92 ?_
  intro b_3 w_4 hl_7 hb_6 K_5
  replace hb_6 : Blk w_4 b_3 [.int .i64 (0), .int .i64 (0)] 92 := hb_6
  have ne_8 : b < b_3 := Nat.lt_of_lt_of_le hB.lt hl_7
  have : w.heap.size ≤ b_3 := Nat.le_trans K0.size hl_7
  clear hl_7
  replace hB := hB.ext K_5
  replace K0 := K0.ext K_5
  refine RL.st rfl <| St1.store (v := .agg #[.int .i64 (0), .int .i64 (0)]) ty92 rfl rfl rfl (by simp [Value.cells, Value.oneCell']) hb_6 (by simp) ?_
  intro w_9 hb_6_ K_10
  have hb_6' : Blk w_9 b_3 [.int .i64 (0), .int .i64 (0)] 92 := hb_6_
  clear hb_6_
  replace hB := hB.keep K_10 (by simp only [one]; omega)
  replace K0 := K0.new K_10 (fun x hx => by simp only [one] at hx; omega)
  replace hb_6 := hb_6'
  clear hb_6'
  refine RL.val (x_assign (v := .iface 24 (.int .i64 (8))) rfl) ?_
  refine RL.nil ?_
  refine Run.seq ?_
  refine Run.seq ?_
  refine Run.region ?_
  refine RL.val (x_move (v := .iface 24 (.int .i64 (8))) rfl) ?_
  refine RL.val (x_neIN (by kernel_rfl) rfl rfl) ?_
  refine RL.nil ?_
  refine Run.condT rfl ?_
  refine Run.seq ?_
  refine Run.region ?_
  refine RL.val (x_move (v := .iface 24 (.int .i64 (8))) rfl) ?_
  refine RL.st rfl <| St1.call (vals := [.iface 24 (.int .i64 (8))]) en74 rfl (number8 _) ?_
  rintro _ w_11 ⟨rfl, K_12⟩
  replace hB := hB.ext K_12
  replace hb_6 := hb_6.ext K_12
  replace K0 := K0.ext K_12
  refine RL.val (x_assignI rfl) ?_
  refine RL.nil ?_
  refine Run.ret1 (v := .int .i64 (8)) Tryz.func51 rfl rfl ?_
  exact ⟨_, rfl, rfl, K0⟩

set_option maxRecDepth 100000 in
set_option maxHeartbeats 4000000 in
theorem turnM_ (b pm cm : Nat) (nodes id now : Int) (ts : List Pk) (cs : List LinkC) (x y : Int) (w : World) (hD : WldO w b pm cm nodes id now ts cs) :
    Calls Tryz.prog 51 #[.pointer (some ⟨b, 0, none⟩), .int .i64 (x), .int .i64 (y), .bool (false), .func (.func 55) #[] #[]] w (Ret (fun v w' => v = .int .i64 (mendE nodes cs x y) ∧ WldO w' b pm cm nodes id now ts (mendL nodes cs x y) ∧ Keeps (wF b pm cm) w w')) := by
  obtain ⟨hB, hP, hC, hM, hn1, hn2, hn3, hsb, hsp, hsc, hok⟩ := hD
  obtain ⟨hno1, hno2⟩ := hok.nodes
  obtain ⟨hnw1, hnw2⟩ := hok.now
  have hid0 := hok.id0
  have hl5 := hok.len
  rw [p_len] at hl5
  have hpl := pents_len ts
  refine calls_run (n := 42) Tryz.func51 rfl rfl rfl ?_
  refine Run.seq ?_
  refine Run.region ?_
  refine RL.val (x_assignI rfl) ?_
  refine RL.nil ?_
  refine Run.seq ?_
  refine Run.region ?_
  refine RL.val (x_moveP rfl) ?_
  refine RL.val (x_moveI rfl) ?_
  refine RL.val (x_moveI rfl) ?_
  refine RL.st rfl <| St1.call (vals := [.pointer (some ⟨b, 0, none⟩), .int .i64 (x), .int .i64 (y)]) en40 rfl (between_ b pm cm nodes id now ts cs x y _ (⟨hB, hP, hC, hM, hn1, hn2, hn3, hsb, (fun h_ => (mp_of hsp) _ h_ rfl), (fun h_ => (mp_of hsc) _ h_ rfl), hok⟩ : WldO _ b pm cm nodes id now ts cs)) ?_
  rintro _ w_1 (⟨htw_2, rfl, K_3⟩ | ⟨htw_2, rfl, K_3⟩)
  · replace hB := hB.ext K_3
    replace hP := hP.ext K_3
    replace hC := hC.ext K_3
    replace hM := hM.ext K_3
    have K0 := (K_3 : Ext w _).to (S := (wF b pm cm))
    refine RL.val (x_moveT rfl) ?_
    refine RL.val (x_extract rfl rfl) ?_
    refine RL.val (x_extract rfl rfl) ?_
    refine RL.st rfl <| St1.alloc ty92 ?_
    intro b_4 w_5 hl_8 hb_7 K_6
    replace hb_7 : Blk w_5 b_4 [.int .i64 (0), .int .i64 (0)] 92 := hb_7
    have ne_9 : b < b_4 := Nat.lt_of_lt_of_le hB.lt hl_8
    have pr_10 : ¬ one pm b_4 := fun h => absurd (hP.own_lt _ h) (by omega)
    have pr_11 : ¬ one cm b_4 := fun h => absurd (hC.own_lt _ h) (by omega)
    have pr_12 : ¬ mgsS ts b_4 := fun h => absurd (hM.own_lt _ h) (by omega)
    have : w.heap.size ≤ b_4 := Nat.le_trans K0.size hl_8
    clear hl_8
    replace hB := hB.ext K_6
    replace hP := hP.ext K_6
    replace hC := hC.ext K_6
    replace hM := hM.ext K_6
    replace K0 := K0.ext K_6
    refine RL.st rfl <| St1.store (v := .agg #[.int .i64 (0), .int .i64 (0)]) ty92 rfl rfl rfl (by simp [Value.cells, Value.oneCell']) hb_7 (by simp) ?_
    intro w_13 hb_7_ K_14
    have hb_7' : Blk w_13 b_4 [.int .i64 (0), .int .i64 (0)] 92 := hb_7_
    clear hb_7_
    replace hB := hB.keep K_14 (by simp only [one]; omega)
    replace hP := hP.keepO K_14 (fun q_ hq_ eq_ => pr_10 (by simp only [one] at eq_; rw [← eq_]; exact hq_))
    replace hC := hC.keepO K_14 (fun q_ hq_ eq_ => pr_11 (by simp only [one] at eq_; rw [← eq_]; exact hq_))
    replace hM := hM.keepO K_14 (fun q_ hq_ eq_ => pr_12 (by simp only [one] at eq_; rw [← eq_]; exact hq_))
    replace K0 := K0.trans K_14 (fun x hlt hx => absurd hlt (by simp only [one] at hx; omega))
    replace hb_7 := hb_7'
    clear hb_7'
    refine RL.val (x_assign (v := .iface 24 (.int .i64 (1))) rfl) ?_
    refine RL.nil ?_
    refine Run.seq ?_
    refine Run.seq ?_
    refine Run.region ?_
    refine RL.val (x_move (v := .iface 24 (.int .i64 (1))) rfl) ?_
    refine RL.val (x_neIN (by kernel_rfl) rfl rfl) ?_
    refine RL.nil ?_
    refine Run.condT rfl ?_
    refine Run.seq ?_
    refine Run.region ?_
    refine RL.val (x_move (v := .iface 24 (.int .i64 (1))) rfl) ?_
    refine RL.st rfl <| St1.call (vals := [.iface 24 (.int .i64 (1))]) en74 rfl (number1 _) ?_
    rintro _ w_15 ⟨rfl, K_16⟩
    replace hB := hB.ext K_16
    replace hP := hP.ext K_16
    replace hC := hC.ext K_16
    replace hM := hM.ext K_16
    replace hb_7 := hb_7.ext K_16
    replace K0 := K0.ext K_16
    refine RL.val (x_assignI rfl) ?_
    refine RL.nil ?_
    refine Run.ret1 (v := .int .i64 (1)) Tryz.func51 rfl rfl ?_
    have e := mend_two (cs := cs) htw_2
    rw [e.1, e.2]
    exact ⟨_, rfl, rfl, ⟨hB, hP, hC, hM, hn1, hn2, hn3, hsb, (fun h_ => (mp_of hsp) _ h_ rfl), (fun h_ => (mp_of hsc) _ h_ rfl), hok⟩, K0⟩
  · replace hB := hB.ext K_3
    replace hP := hP.ext K_3
    replace hC := hC.ext K_3
    replace hM := hM.ext K_3
    have K0 := (K_3 : Ext w _).to (S := (wF b pm cm))
    refine RL.val (x_moveT rfl) ?_
    refine RL.val (x_extract rfl rfl) ?_
    refine RL.val (x_extract rfl rfl) ?_
    refine RL.st rfl <| St1.alloc ty92 ?_
    intro b_17 w_18 hl_21 hb_20 K_19
    replace hb_20 : Blk w_18 b_17 [.int .i64 (0), .int .i64 (0)] 92 := hb_20
    have ne_22 : b < b_17 := Nat.lt_of_lt_of_le hB.lt hl_21
    have pr_23 : ¬ one pm b_17 := fun h => absurd (hP.own_lt _ h) (by omega)
    have pr_24 : ¬ one cm b_17 := fun h => absurd (hC.own_lt _ h) (by omega)
    have pr_25 : ¬ mgsS ts b_17 := fun h => absurd (hM.own_lt _ h) (by omega)
    have : w.heap.size ≤ b_17 := Nat.le_trans K0.size hl_21
    clear hl_21
    replace hB := hB.ext K_19
    replace hP := hP.ext K_19
    replace hC := hC.ext K_19
    replace hM := hM.ext K_19
    replace K0 := K0.ext K_19
    refine RL.st rfl <| St1.store (v := .agg #[.int .i64 (min x y), .int .i64 (max x y)]) ty92 rfl rfl rfl (by simp [Value.cells, Value.oneCell']) hb_20 (by simp) ?_
    intro w_26 hb_20_ K_27
    have hb_20' : Blk w_26 b_17 [.int .i64 (min x y), .int .i64 (max x y)] 92 := hb_20_
    clear hb_20_
    replace hB := hB.keep K_27 (by simp only [one]; omega)
    replace hP := hP.keepO K_27 (fun q_ hq_ eq_ => pr_23 (by simp only [one] at eq_; rw [← eq_]; exact hq_))
    replace hC := hC.keepO K_27 (fun q_ hq_ eq_ => pr_24 (by simp only [one] at eq_; rw [← eq_]; exact hq_))
    replace hM := hM.keepO K_27 (fun q_ hq_ eq_ => pr_25 (by simp only [one] at eq_; rw [← eq_]; exact hq_))
    replace K0 := K0.trans K_27 (fun x hlt hx => absurd hlt (by simp only [one] at hx; omega))
    replace hb_20 := hb_20'
    clear hb_20'
    refine RL.val (x_assign (v := .nilIface) rfl) ?_
    refine RL.nil ?_
    refine Run.seq ?_
    refine Run.seq ?_
    refine Run.region ?_
    refine RL.val (x_move (v := .nilIface) rfl) ?_
    refine RL.val (x_neNN (by kernel_rfl) rfl rfl) ?_
    refine RL.nil ?_
    refine Run.condF rfl ?_
    refine Run.skip ?_
    refine Run.seq ?_
    refine Run.seq ?_
    refine Run.drawT [] (m := 12) (by kernel_rfl) rfl ?_
    intro w_28 K_29
    replace hB := hB.ext K_29
    replace hP := hP.ext K_29
    replace hC := hC.ext K_29
    replace hM := hM.ext K_29
    replace hb_20 := hb_20.ext K_29
    replace K0 := K0.ext K_29
    refine ⟨fun w' => Blk w' b [.int .i64 (nodes), .map (some pm), .map (some cm), .int .i64 (id), .int .i64 (now)] 64 ∧ MapAt w' cm (cents cs) ∧ Blk w' b_17 [.int .i64 (min x y), .int .i64 (max x y)] 92 ∧ True, ?_⟩
    refine RT.takeP (v := .pointer (some ⟨b, 0, none⟩)) 0 rfl (by kernel_rfl) (.inr ⟨hB, hC, hb_20, trivial⟩) (fun _ => (x_moveP rfl)) ?_
    refine RT.takeP (v := .pointer (some ⟨b, 0, none⟩)) 1 rfl (by kernel_rfl) (.inr ⟨hB, hC, hb_20, trivial⟩) (fun _ => (x_nilCheck rfl)) ?_
    refine RT.takeP (v := .pointer (some ⟨b, 2, none⟩)) 2 rfl (by kernel_rfl) (.inr ⟨hB, hC, hb_20, trivial⟩) (fun _ => (x_fld (o' := 2) Tryz.underlying64 rfl ty62 rfl rfl rfl)) ?_
    refine RT.take (v := .map (some cm)) 3 rfl (by kernel_rfl) ⟨hB, hC, hb_20, trivial⟩ (by rintro _ ⟨hB, hC, hb_20, -⟩; exact (x_ld (v := .map (some cm)) ty62 rfl rfl (hB.cl.field (i := 2) rfl))) ?_
    refine RT.take (v := .agg #[.int .i64 (min x y), .int .i64 (max x y)]) 4 rfl (by kernel_rfl) ⟨hB, hC, hb_20, trivial⟩ (by rintro _ ⟨hB, hC, hb_20, -⟩; exact (x_lds (cs := #[.int .i64 (min x y), .int .i64 (max x y)]) ty92 rfl rfl (hb_20.cl.drop 0 2))) ?_
    refine RT.take (v := .tuple #[.agg #[], .bool (decide (lk x y ∈ cs))]) 5 rfl (by kernel_rfl) ⟨hB, hC, hb_20, trivial⟩ (by rintro _ ⟨hB, hC, hb_20, -⟩; exact (litV (v' := .tuple #[.agg #[], .bool (decide (lk x y ∈ cs))]) (x_lookupOk (a := lk x y) Tryz.underlying62 Tryz.underlying92 linkD ty111 rfl rfl hC) (by rw [cget]; split <;> rename_i h_ <;> simp [h_]))) ?_
    refine RT.takeP (v := .tuple #[.agg #[], .bool (decide (lk x y ∈ cs))]) 6 rfl (by kernel_rfl) (.inr ⟨hB, hC, hb_20, trivial⟩) (fun _ => (x_moveT rfl)) ?_
    refine RT.takeP (v := .agg #[]) 7 rfl (by kernel_rfl) (.inr ⟨hB, hC, hb_20, trivial⟩) (fun _ => (x_extract rfl rfl)) ?_
    refine RT.takeP (v := .bool (decide (lk x y ∈ cs))) 8 rfl (by kernel_rfl) (.inr ⟨hB, hC, hb_20, trivial⟩) (fun _ => (x_extract rfl rfl)) ?_
    refine RT.st 9 rfl (by kernel_rfl) rfl <| St1.alloc ty111 ?_
    intro b_30 w_31 hl_34 hb_33 K_32
    replace hb_33 : Blk w_31 b_30 [] 111 := hb_33
    have ne_35 : b < b_30 := Nat.lt_of_lt_of_le hB.lt hl_34
    have ne_36 : b_17 < b_30 := Nat.lt_of_lt_of_le hb_20.lt hl_34
    have pr_37 : ¬ one pm b_30 := fun h => absurd (hP.own_lt _ h) (by omega)
    have pr_38 : ¬ one cm b_30 := fun h => absurd (hC.own_lt _ h) (by omega)
    have pr_39 : ¬ mgsS ts b_30 := fun h => absurd (hM.own_lt _ h) (by omega)
    have : w.heap.size ≤ b_30 := Nat.le_trans K0.size hl_34
    clear hl_34
    replace hB := hB.ext K_32
    replace hP := hP.ext K_32
    replace hC := hC.ext K_32
    replace hM := hM.ext K_32
    replace hb_20 := hb_20.ext K_32
    replace K0 := K0.ext K_32
    refine ⟨.inr ⟨hB, hC, hb_20, trivial⟩, ?_⟩
    refine RT.st 10 rfl (by kernel_rfl) rfl <| St1.store (v := .agg #[]) ty111 rfl rfl rfl (by simp [Value.cells, Value.oneCell']) hb_33 (by simp) ?_
    intro w_40 hb_33_ K_41
    have hb_33' : Blk w_40 b_30 [] 111 := hb_33_
    clear hb_33_
    replace hB := hB.keep K_41 (by simp only [one]; omega)
    replace hP := hP.keepO K_41 (fun q_ hq_ eq_ => pr_37 (by simp only [one] at eq_; rw [← eq_]; exact hq_))
    replace hC := hC.keepO K_41 (fun q_ hq_ eq_ => pr_38 (by simp only [one] at eq_; rw [← eq_]; exact hq_))
    replace hM := hM.keepO K_41 (fun q_ hq_ eq_ => pr_39 (by simp only [one] at eq_; rw [← eq_]; exact hq_))
    replace hb_20 := hb_20.keep K_41 (by simp only [one]; omega)
    replace K0 := K0.trans K_41 (fun x hlt hx => absurd hlt (by simp only [one] at hx; omega))
    replace hb_33 := hb_33'
    clear hb_33'
    refine ⟨.inr ⟨hB, hC, hb_20, trivial⟩, ?_⟩
    refine RT.takeP (v := .bool (decide (lk x y ∈ cs))) 11 rfl (by kernel_rfl) (.inr ⟨hB, hC, hb_20, trivial⟩) (fun _ => (x_assignB rfl)) ?_
    refine RT.done (by kernel_rfl) ?_
    refine Run.seq ?_
    refine Run.region ?_
    refine RL.val (x_moveB rfl) ?_
    refine RL.val (x_moveB rfl) ?_
    refine RL.val (x_eqB Tryz.underlying4 rfl rfl) ?_
    refine RL.nil ?_
    refine Run.cond rfl (fun hc37 => ?_) (fun hc37 => ?_)
    · try simp only [br] at hc37
      refine Run.seq ?_
      refine Run.region ?_
      refine RL.val (x_assignI rfl) ?_
      refine RL.nil ?_
      refine Run.ret1 (v := .int .i64 (220)) Tryz.func51 rfl rfl ?_
      have e := mend_no (cs := cs) htw_2 (by first | exact hc37 | simpa using hc37)
      rw [e.1, e.2]
      exact ⟨_, rfl, rfl, ⟨hB, hP, hC, hM, hn1, hn2, hn3, hsb, (fun h_ => (mp_of hsp) _ h_ rfl), (fun h_ => (mp_of hsc) _ h_ rfl), hok⟩, K0⟩
    · try simp only [br] at hc37
      refine Run.skip ?_
      refine Run.seq ?_
      skip
      refine Run.region ?_
      refine RL.val (x_moveF rfl) ?_
      refine RL.val (x_moveP rfl) ?_
      refine RL.val (x_lds (cs := #[.int .i64 (min x y), .int .i64 (max x y)]) ty92 rfl rfl (hb_20.cl.drop 0 2)) ?_
      refine RL.st rfl <| St1.callV (vals := [.pointer (some ⟨b, 0, none⟩), .agg #[.int .i64 (min x y), .int .i64 (max x y)]]) en55 rfl rfl (mendw_ b pm cm nodes id now ts cs (⟨min x y, max x y⟩ : LinkC) _ (⟨hB, hP, hC, hM, hn1, hn2, hn3, hsb, (fun h_ => (mp_of hsp) _ h_ rfl), (fun h_ => (mp_of hsc) _ h_ rfl), hok⟩ : WldO _ b pm cm nodes id now ts cs)) ?_
      rintro _ w_42 ⟨rfl, hD_43, K_44⟩
      have pr_46 : ∀ q_, wF b pm cm q_ → ¬ mgsS ts q_ := fun q_ x_ z_ => ((fun q_ h_ => show q_ = b ∨ (q_ = pm ∨ q_ = cm) from h_) _ x_).elim (fun e_ => hsb (show mgsS ts b from e_ ▸ z_)) (fun y_ => y_.elim (fun y_ => (fun q_ h1 h2 => (mp_of hsp) q_ h2 h1) q_ y_ z_) (fun y_ => (fun y_ => (fun q_ h1 h2 => (mp_of hsc) q_ h2 h1) q_ y_ z_) y_))
      have pr_47 : ¬ wF b pm cm b_17 := fun x_ => ((fun q_ h_ => show q_ = b ∨ (q_ = pm ∨ q_ = cm) from h_) _ x_).elim (fun e_ => absurd e_ (by omega)) (fun y_ => y_.elim pr_23 (fun y_ => pr_24 y_))
      have pr_48 : ¬ wF b pm cm b_30 := fun x_ => ((fun q_ h_ => show q_ = b ∨ (q_ = pm ∨ q_ = cm) from h_) _ x_).elim (fun e_ => absurd e_ (by omega)) (fun y_ => y_.elim pr_37 (fun y_ => pr_38 y_))
      have pg_49 : ∀ q_, wF b pm cm q_ → q_ < w.heap.size → (wF b pm cm) q_ := fun q_ x_ hl_ => ((fun q_ h_ => show q_ = b ∨ (q_ = pm ∨ q_ = cm) from h_) _ x_).elim (fun e_ => e_ ▸ wf_b) (fun y_ => y_.elim (fun y_ => (fun q_ h_ _ => wf_p q_ h_) q_ y_ hl_) (fun y_ => (fun y_ => (fun q_ h_ _ => wf_c q_ h_) q_ y_ hl_) y_))
      replace hM := hM.keepO K_44 (fun q_ h1 h2 => pr_46 q_ h2 h1)
      replace hb_20 := hb_20.keep K_44 pr_47
      replace hb_33 := hb_33.keep K_44 pr_48
      replace K0 := K0.trans K_44 (fun x hlt hx => pg_49 x hx hlt)
      replace hB := hD_43.blk
      replace hP := hD_43.pk
      replace hC := hD_43.cu
      replace hok := hD_43.ok
      have pr_50 : ¬ mgsS ts b := fun h_ => pr_46 _ wf_b h_
      have ne_51 : b ≠ b_17 := fun e_ => pr_47 (by rw [← e_]; exact wf_b)
      have ne_52 : b ≠ b_30 := fun e_ => pr_48 (by rw [← e_]; exact wf_b)
      have if_53 : b < w.heap.size → (wF b pm cm) b := fun hl_ => pg_49 _ wf_b hl_
      have pr_54 : ∀ q_, one pm q_ → ¬ mgsS ts q_ := fun q_ h_ => pr_46 q_ (wf_p q_ h_)
      have pr_55 : ¬ one pm b_17 := fun h_ => pr_47 (wf_p _ h_)
      have pr_56 : ¬ one pm b_30 := fun h_ => pr_48 (wf_p _ h_)
      have pr_57 : ∀ q_, one cm q_ → ¬ mgsS ts q_ := fun q_ h_ => pr_46 q_ (wf_c q_ h_)
      have pr_58 : ¬ one cm b_17 := fun h_ => pr_47 (wf_c _ h_)
      have pr_59 : ¬ one cm b_30 := fun h_ => pr_48 (wf_c _ h_)
      refine RL.nil ?_
      refine Run.seq ?_
      refine Run.region ?_
      refine RL.val (x_assignI rfl) ?_
      refine RL.nil ?_
      refine Run.ret1 (v := .int .i64 (0)) Tryz.func51 rfl rfl ?_
      have e := mend_ok (cs := cs) htw_2 (by first | exact hc37 | simpa using hc37)
      rw [e.1, e.2]
      exact ⟨_, rfl, rfl, ⟨hB, hP, hC, hM, hn1, hn2, hn3, pr_50, (fun h_ => (mp_of hsp) _ h_ rfl), (fun h_ => (mp_of hsc) _ h_ rfl), hok⟩, K0⟩

set_option maxRecDepth 100000 in
set_option maxHeartbeats 4000000 in
theorem cutNil  (x y : Int) (w : World) :
    Calls Tryz.prog 24 #[.pointer none, .int .i64 (x), .int .i64 (y)] w (Ret (fun v w' => v = .int .i64 8 ∧ Ext w w')) := by
  refine calls_run (n := 11) Tryz.func24 rfl rfl rfl ?_
  refine Run.seq ?_
  refine Run.region ?_
  refine RL.val (x_assignI rfl) ?_
  refine RL.nil ?_
  refine Run.seq ?_
  refine Run.region ?_
  refine RL.val (x_moveP rfl) ?_
  refine RL.val (x_moveI rfl) ?_
  refine RL.val (x_moveI rfl) ?_
  refine RL.st rfl <| St1.call (vals := [.pointer none, .int .i64 (x), .int .i64 (y), .bool (true), .func (.func 52) #[] #[]]) en51 rfl (turnCNil x y _) ?_
  rintro _ w_1 ⟨rfl, K_2⟩
  have K0 := (K_2 : Ext w _)
  refine RL.val (x_assignI rfl) ?_
  refine RL.nil ?_
  refine Run.ret1 (v := .int .i64 (8)) Tryz.func24 rfl rfl ?_
  exact ⟨_, rfl, rfl, K0⟩

set_option maxRecDepth 100000 in
set_option maxHeartbeats 4000000 in
theorem cutZero (b : Nat) (x y : Int) (w : World) (hB : Blk w b [.int .i64 0, .map none, .map none, .int .i64 0, .int .i64 0] 64) :
    Calls Tryz.prog 24 #[.pointer (some ⟨b, 0, none⟩), .int .i64 (x), .int .i64 (y)] w (Ret (fun v w' => v = .int .i64 8 ∧ Ext w w')) := by
  refine calls_run (n := 11) Tryz.func24 rfl rfl rfl ?_
  refine Run.seq ?_
  refine Run.region ?_
  refine RL.val (x_assignI rfl) ?_
  refine RL.nil ?_
  refine Run.seq ?_
  refine Run.region ?_
  refine RL.val (x_moveP rfl) ?_
  refine RL.val (x_moveI rfl) ?_
  refine RL.val (x_moveI rfl) ?_
  refine RL.st rfl <| St1.call (vals := [.pointer (some ⟨b, 0, none⟩), .int .i64 (x), .int .i64 (y), .bool (true), .func (.func 52) #[] #[]]) en51 rfl (turnCZero _ x y _ hB) ?_
  rintro _ w_1 ⟨rfl, K_2⟩
  replace hB := hB.ext K_2
  have K0 := (K_2 : Ext w _)
  refine RL.val (x_assignI rfl) ?_
  refine RL.nil ?_
  refine Run.ret1 (v := .int .i64 (8)) Tryz.func24 rfl rfl ?_
  exact ⟨_, rfl, rfl, K0⟩

set_option maxRecDepth 100000 in
set_option maxHeartbeats 4000000 in
theorem cut_ (b pm cm : Nat) (nodes id now : Int) (ts : List Pk) (cs : List LinkC) (x y : Int) (w : World) (hD : WldO w b pm cm nodes id now ts cs) :
    Calls Tryz.prog 24 #[.pointer (some ⟨b, 0, none⟩), .int .i64 (x), .int .i64 (y)] w (Ret (fun v w' => v = .int .i64 (cutE nodes cs x y) ∧ WldO w' b pm cm nodes id now ts (cutL nodes cs x y) ∧ Keeps (wF b pm cm) w w')) := by
  obtain ⟨hB, hP, hC, hM, hn1, hn2, hn3, hsb, hsp, hsc, hok⟩ := hD
  obtain ⟨hno1, hno2⟩ := hok.nodes
  obtain ⟨hnw1, hnw2⟩ := hok.now
  have hid0 := hok.id0
  have hl5 := hok.len
  rw [p_len] at hl5
  have hpl := pents_len ts
  refine calls_run (n := 11) Tryz.func24 rfl rfl rfl ?_
  refine Run.seq ?_
  refine Run.region ?_
  refine RL.val (x_assignI rfl) ?_
  refine RL.nil ?_
  refine Run.seq ?_
  refine Run.region ?_
  refine RL.val (x_moveP rfl) ?_
  refine RL.val (x_moveI rfl) ?_
  refine RL.val (x_moveI rfl) ?_
  refine RL.st rfl <| St1.call (vals := [.pointer (some ⟨b, 0, none⟩), .int .i64 (x), .int .i64 (y), .bool (true), .func (.func 52) #[] #[]]) en51 rfl (turnC_ b pm cm nodes id now ts cs x y _ (⟨hB, hP, hC, hM, hn1, hn2, hn3, hsb, (fun h_ => (mp_of hsp) _ h_ rfl), (fun h_ => (mp_of hsc) _ h_ rfl), hok⟩ : WldO _ b pm cm nodes id now ts cs)) ?_
  rintro _ w_1 ⟨rfl, hD_2, K_3⟩
  have pr_5 : ∀ q_, wF b pm cm q_ → ¬ mgsS ts q_ := fun q_ x_ z_ => ((fun q_ h_ => show q_ = b ∨ (q_ = pm ∨ q_ = cm) from h_) _ x_).elim (fun e_ => hsb (show mgsS ts b from e_ ▸ z_)) (fun y_ => y_.elim (fun y_ => (fun q_ h1 h2 => (mp_of hsp) q_ h2 h1) q_ y_ z_) (fun y_ => (fun y_ => (fun q_ h1 h2 => (mp_of hsc) q_ h2 h1) q_ y_ z_) y_))
  have pg_6 : ∀ q_, wF b pm cm q_ → q_ < w.heap.size → (wF b pm cm) q_ := fun q_ x_ hl_ => ((fun q_ h_ => show q_ = b ∨ (q_ = pm ∨ q_ = cm) from h_) _ x_).elim (fun e_ => e_ ▸ wf_b) (fun y_ => y_.elim (fun y_ => (fun q_ h_ _ => wf_p q_ h_) q_ y_ hl_) (fun y_ => (fun y_ => (fun q_ h_ _ => wf_c q_ h_) q_ y_ hl_) y_))
  replace hM := hM.keepO K_3 (fun q_ h1 h2 => pr_5 q_ h2 h1)
  have K0 := (Keeps.refl (wF b pm cm) w).trans K_3 (fun x hlt hx => pg_6 x hx hlt)
  replace hB := hD_2.blk
  replace hP := hD_2.pk
  replace hC := hD_2.cu
  replace hok := hD_2.ok
  have pr_7 : ¬ mgsS ts b := fun h_ => pr_5 _ wf_b h_
  have if_8 : b < w.heap.size → (wF b pm cm) b := fun hl_ => pg_6 _ wf_b hl_
  have pr_9 : ∀ q_, one pm q_ → ¬ mgsS ts q_ := fun q_ h_ => pr_5 q_ (wf_p q_ h_)
  have pr_10 : ∀ q_, one cm q_ → ¬ mgsS ts q_ := fun q_ h_ => pr_5 q_ (wf_c q_ h_)
  refine RL.val (x_assignI rfl) ?_
  refine RL.nil ?_
  refine Run.ret1 (v := .int .i64 (cutE nodes cs x y)) Tryz.func24 rfl rfl ?_
  exact ⟨_, rfl, rfl, ⟨hB, hP, hC, hM, hn1, hn2, hn3, pr_7, (fun h_ => (mp_of hsp) _ h_ rfl), (fun h_ => (mp_of hsc) _ h_ rfl), hok⟩, K0⟩

set_option maxRecDepth 100000 in
set_option maxHeartbeats 4000000 in
theorem mendNil  (x y : Int) (w : World) :
    Calls Tryz.prog 26 #[.pointer none, .int .i64 (x), .int .i64 (y)] w (Ret (fun v w' => v = .int .i64 8 ∧ Ext w w')) := by
  refine calls_run (n := 11) Tryz.func26 rfl rfl rfl ?_
  refine Run.seq ?_
  refine Run.region ?_
  refine RL.val (x_assignI rfl) ?_
  refine RL.nil ?_
  refine Run.seq ?_
  refine Run.region ?_
  refine RL.val (x_moveP rfl) ?_
  refine RL.val (x_moveI rfl) ?_
  refine RL.val (x_moveI rfl) ?_
  refine RL.st rfl <| St1.call (vals := [.pointer none, .int .i64 (x), .int .i64 (y), .bool (false), .func (.func 55) #[] #[]]) en51 rfl (turnMNil x y _) ?_
  rintro _ w_1 ⟨rfl, K_2⟩
  have K0 := (K_2 : Ext w _)
  refine RL.val (x_assignI rfl) ?_
  refine RL.nil ?_
  refine Run.ret1 (v := .int .i64 (8)) Tryz.func26 rfl rfl ?_
  exact ⟨_, rfl, rfl, K0⟩

set_option maxRecDepth 100000 in
set_option maxHeartbeats 4000000 in
theorem mendZero (b : Nat) (x y : Int) (w : World) (hB : Blk w b [.int .i64 0, .map none, .map none, .int .i64 0, .int .i64 0] 64) :
    Calls Tryz.prog 26 #[.pointer (some ⟨b, 0, none⟩), .int .i64 (x), .int .i64 (y)] w (Ret (fun v w' => v = .int .i64 8 ∧ Ext w w')) := by
  refine calls_run (n := 11) Tryz.func26 rfl rfl rfl ?_
  refine Run.seq ?_
  refine Run.region ?_
  refine RL.val (x_assignI rfl) ?_
  refine RL.nil ?_
  refine Run.seq ?_
  refine Run.region ?_
  refine RL.val (x_moveP rfl) ?_
  refine RL.val (x_moveI rfl) ?_
  refine RL.val (x_moveI rfl) ?_
  refine RL.st rfl <| St1.call (vals := [.pointer (some ⟨b, 0, none⟩), .int .i64 (x), .int .i64 (y), .bool (false), .func (.func 55) #[] #[]]) en51 rfl (turnMZero _ x y _ hB) ?_
  rintro _ w_1 ⟨rfl, K_2⟩
  replace hB := hB.ext K_2
  have K0 := (K_2 : Ext w _)
  refine RL.val (x_assignI rfl) ?_
  refine RL.nil ?_
  refine Run.ret1 (v := .int .i64 (8)) Tryz.func26 rfl rfl ?_
  exact ⟨_, rfl, rfl, K0⟩

set_option maxRecDepth 100000 in
set_option maxHeartbeats 4000000 in
theorem mend_ (b pm cm : Nat) (nodes id now : Int) (ts : List Pk) (cs : List LinkC) (x y : Int) (w : World) (hD : WldO w b pm cm nodes id now ts cs) :
    Calls Tryz.prog 26 #[.pointer (some ⟨b, 0, none⟩), .int .i64 (x), .int .i64 (y)] w (Ret (fun v w' => v = .int .i64 (mendE nodes cs x y) ∧ WldO w' b pm cm nodes id now ts (mendL nodes cs x y) ∧ Keeps (wF b pm cm) w w')) := by
  obtain ⟨hB, hP, hC, hM, hn1, hn2, hn3, hsb, hsp, hsc, hok⟩ := hD
  obtain ⟨hno1, hno2⟩ := hok.nodes
  obtain ⟨hnw1, hnw2⟩ := hok.now
  have hid0 := hok.id0
  have hl5 := hok.len
  rw [p_len] at hl5
  have hpl := pents_len ts
  refine calls_run (n := 11) Tryz.func26 rfl rfl rfl ?_
  refine Run.seq ?_
  refine Run.region ?_
  refine RL.val (x_assignI rfl) ?_
  refine RL.nil ?_
  refine Run.seq ?_
  refine Run.region ?_
  refine RL.val (x_moveP rfl) ?_
  refine RL.val (x_moveI rfl) ?_
  refine RL.val (x_moveI rfl) ?_
  refine RL.st rfl <| St1.call (vals := [.pointer (some ⟨b, 0, none⟩), .int .i64 (x), .int .i64 (y), .bool (false), .func (.func 55) #[] #[]]) en51 rfl (turnM_ b pm cm nodes id now ts cs x y _ (⟨hB, hP, hC, hM, hn1, hn2, hn3, hsb, (fun h_ => (mp_of hsp) _ h_ rfl), (fun h_ => (mp_of hsc) _ h_ rfl), hok⟩ : WldO _ b pm cm nodes id now ts cs)) ?_
  rintro _ w_1 ⟨rfl, hD_2, K_3⟩
  have pr_5 : ∀ q_, wF b pm cm q_ → ¬ mgsS ts q_ := fun q_ x_ z_ => ((fun q_ h_ => show q_ = b ∨ (q_ = pm ∨ q_ = cm) from h_) _ x_).elim (fun e_ => hsb (show mgsS ts b from e_ ▸ z_)) (fun y_ => y_.elim (fun y_ => (fun q_ h1 h2 => (mp_of hsp) q_ h2 h1) q_ y_ z_) (fun y_ => (fun y_ => (fun q_ h1 h2 => (mp_of hsc) q_ h2 h1) q_ y_ z_) y_))
  have pg_6 : ∀ q_, wF b pm cm q_ → q_ < w.heap.size → (wF b pm cm) q_ := fun q_ x_ hl_ => ((fun q_ h_ => show q_ = b ∨ (q_ = pm ∨ q_ = cm) from h_) _ x_).elim (fun e_ => e_ ▸ wf_b) (fun y_ => y_.elim (fun y_ => (fun q_ h_ _ => wf_p q_ h_) q_ y_ hl_) (fun y_ => (fun y_ => (fun q_ h_ _ => wf_c q_ h_) q_ y_ hl_) y_))
  replace hM := hM.keepO K_3 (fun q_ h1 h2 => pr_5 q_ h2 h1)
  have K0 := (Keeps.refl (wF b pm cm) w).trans K_3 (fun x hlt hx => pg_6 x hx hlt)
  replace hB := hD_2.blk
  replace hP := hD_2.pk
  replace hC := hD_2.cu
  replace hok := hD_2.ok
  have pr_7 : ¬ mgsS ts b := fun h_ => pr_5 _ wf_b h_
  have if_8 : b < w.heap.size → (wF b pm cm) b := fun hl_ => pg_6 _ wf_b hl_
  have pr_9 : ∀ q_, one pm q_ → ¬ mgsS ts q_ := fun q_ h_ => pr_5 q_ (wf_p q_ h_)
  have pr_10 : ∀ q_, one cm q_ → ¬ mgsS ts q_ := fun q_ h_ => pr_5 q_ (wf_c q_ h_)
  refine RL.val (x_assignI rfl) ?_
  refine RL.nil ?_
  refine Run.ret1 (v := .int .i64 (mendE nodes cs x y)) Tryz.func26 rfl rfl ?_
  exact ⟨_, rfl, rfl, ⟨hB, hP, hC, hM, hn1, hn2, hn3, pr_7, (fun h_ => (mp_of hsp) _ h_ rfl), (fun h_ => (mp_of hsc) _ h_ rfl), hok⟩, K0⟩

set_option maxRecDepth 100000 in
set_option maxHeartbeats 4000000 in
theorem packetsNil  (w : World) :
    Calls Tryz.prog 10 #[.pointer none] w (Ret (fun v w' => v = .slice none 0 0 ∧ Ext w w')) := by
  refine calls_run (n := 34) Tryz.func10 rfl rfl rfl ?_
  refine Run.seq ?_
  refine Run.region ?_
  refine RL.val (x_assignSl rfl) ?_
  refine RL.nil ?_
  refine Run.seq ?_
  refine Run.seq ?_
  refine Run.region ?_
  refine RL.val (x_moveP rfl) ?_
  refine RL.st rfl <| St1.call (vals := [.pointer none]) en31 rfl (madeNil  _) ?_
  rintro _ w_1 ⟨rfl, K_2⟩
  have K0 := (K_2 : Ext w _)
  refine RL.val (x_not (b := false) rfl) ?_
  refine RL.nil ?_
  refine Run.condT rfl ?_
  refine Run.seq ?_
  refine Run.region ?_
  refine RL.val (x_assignSl rfl) ?_
  refine RL.nil ?_
  refine Run.ret1 (v := .slice (none) (0) (0)) Tryz.func10 rfl rfl ?_
  exact ⟨_, rfl, rfl, K0⟩

set_option maxRecDepth 100000 in
set_option maxHeartbeats 4000000 in
theorem packetsZero (b : Nat) (w : World) (hB : Blk w b [.int .i64 0, .map none, .map none, .int .i64 0, .int .i64 0] 64) :
    Calls Tryz.prog 10 #[.pointer (some ⟨b, 0, none⟩)] w (Ret (fun v w' => v = .slice none 0 0 ∧ Ext w w')) := by
  refine calls_run (n := 34) Tryz.func10 rfl rfl rfl ?_
  refine Run.seq ?_
  refine Run.region ?_
  refine RL.val (x_assignSl rfl) ?_
  refine RL.nil ?_
  refine Run.seq ?_
  refine Run.seq ?_
  refine Run.region ?_
  refine RL.val (x_moveP rfl) ?_
  refine RL.st rfl <| St1.call (vals := [.pointer (some ⟨b, 0, none⟩)]) en31 rfl (madeZero _  _ hB) ?_
  rintro _ w_1 ⟨rfl, K_2⟩
  replace hB := hB.ext K_2
  have K0 := (K_2 : Ext w _)
  refine RL.val (x_not (b := false) rfl) ?_
  refine RL.nil ?_
  refine Run.condT rfl ?_
  refine Run.seq ?_
  refine Run.region ?_
  refine RL.val (x_assignSl rfl) ?_
  refine RL.nil ?_
  refine Run.ret1 (v := .slice (none) (0) (0)) Tryz.func10 rfl rfl ?_
  exact ⟨_, rfl, rfl, K0⟩

set_option maxRecDepth 100000 in
set_option maxHeartbeats 4000000 in
theorem forgetNil  (i : Int) (w : World) :
    Calls Tryz.prog 29 #[.pointer none, .int .i64 (i)] w (Ret (fun v w' => v = .int .i64 0 ∧ Ext w w')) := by
  refine calls_run (n := 27) Tryz.func29 rfl rfl rfl ?_
  refine Run.seq ?_
  refine Run.region ?_
  refine RL.st rfl <| St1.box (v := .int .i64 (i)) rfl ?_
  intro b_1 w_2 hl_5 hb_4 K_3
  replace hb_4 : Blk w_2 b_1 [.int .i64 (i)] 3 := hb_4
  have : w.heap.size ≤ b_1 := hl_5
  clear hl_5
  have K0 := (K_3 : Ext w _)
  refine RL.val (x_assignI rfl) ?_
  refine RL.nil ?_
  refine Run.seq ?_
  refine Run.seq ?_
  refine Run.region ?_
  refine RL.val (x_moveP rfl) ?_
  refine RL.st rfl <| St1.call (vals := [.pointer none]) en31 rfl (madeNil  _) ?_
  rintro _ w_6 ⟨rfl, K_7⟩
  replace hb_4 := hb_4.ext K_7
  replace K0 := K0.ext K_7
  refine RL.val (x_not (b := false) rfl) ?_
  refine RL.nil ?_
  refine Run.condT rfl ?_
  refine Run.seq ?_
  refine Run.region ?_
  refine RL.val (x_assignI rfl) ?_
  refine RL.nil ?_
  refine Run.ret1 (v := .int .i64 (0)) Tryz.func29 rfl rfl ?_
  exact ⟨_, rfl, rfl, K0⟩

set_option maxRecDepth 100000 in
set_option maxHeartbeats 4000000 in
theorem forgetZero (b : Nat) (i : Int) (w : World) (hB : Blk w b [.int .i64 0, .map none, .map none, .int .i64 0, .int .i64 0] 64) :
    Calls Tryz.prog 29 #[.pointer (some ⟨b, 0, none⟩), .int .i64 (i)] w (Ret (fun v w' => v = .int .i64 0 ∧ Ext w w')) := by
  refine calls_run (n := 27) Tryz.func29 rfl rfl rfl ?_
  refine Run.seq ?_
  refine Run.region ?_
  refine RL.st rfl <| St1.box (v := .int .i64 (i)) rfl ?_
  intro b_1 w_2 hl_5 hb_4 K_3
  replace hb_4 : Blk w_2 b_1 [.int .i64 (i)] 3 := hb_4
  have ne_6 : b < b_1 := Nat.lt_of_lt_of_le hB.lt hl_5
  have : w.heap.size ≤ b_1 := hl_5
  clear hl_5
  replace hB := hB.ext K_3
  have K0 := (K_3 : Ext w _)
  refine RL.val (x_assignI rfl) ?_
  refine RL.nil ?_
  refine Run.seq ?_
  refine Run.seq ?_
  refine Run.region ?_
  refine RL.val (x_moveP rfl) ?_
  refine RL.st rfl <| St1.call (vals := [.pointer (some ⟨b, 0, none⟩)]) en31 rfl (madeZero _  _ hB) ?_
  rintro _ w_7 ⟨rfl, K_8⟩
  replace hB := hB.ext K_8
  replace hb_4 := hb_4.ext K_8
  replace K0 := K0.ext K_8
  refine RL.val (x_not (b := false) rfl) ?_
  refine RL.nil ?_
  refine Run.condT rfl ?_
  refine Run.seq ?_
  refine Run.region ?_
  refine RL.val (x_assignI rfl) ?_
  refine RL.nil ?_
  refine Run.ret1 (v := .int .i64 (0)) Tryz.func29 rfl rfl ?_
  exact ⟨_, rfl, rfl, K0⟩

set_option maxRecDepth 100000 in
set_option maxHeartbeats 4000000 in
theorem sendNil (al : Option Addr) (ms : List Mg) (lc : Nat) (w : World) (hl : SlOf w al (ms.map Mg.c)) (hml : ms.length ≤ 1048576) :
    Calls Tryz.prog 13 #[.pointer none, .slice (al) ((ms.map Mg.c).length) (lc)] w (Ret (fun v w' => v = .int .i64 0 ∧ Ext w w')) := by
  have hmc : (ms.map Mg.c).length = ms.length := List.length_map ..
  refine calls_run (n := 42) Tryz.func13 rfl rfl rfl ?_
  refine Run.seq ?_
  refine Run.region ?_
  refine RL.val (x_assignI rfl) ?_
  refine RL.nil ?_
  refine Run.seq ?_
  refine Run.region ?_
  refine RL.val (x_assignI rfl) ?_
  refine RL.nil ?_
  refine Run.seq ?_
  refine Run.seq ?_
  refine Run.region ?_
  refine RL.val (x_moveSl rfl) ?_
  refine RL.val (x_lenSl Tryz.underlying31 rfl) ?_
  refine RL.val (x_moveI rfl) ?_
  refine RL.nil ?_
  refine Run.block ?_
  refine Run.loop (ι := Nat) (fun i ρ' w' => Holds ρ' [(0, .pointer none), (5, .int .i64 (0)), (10, .slice (al) ((ms.map Mg.c).length) (lc)), (11, .int .i64 ((((ms.map Mg.c).length : Nat) : Int))), (12, .int .i64 (((i : Nat) : Int)))] ∧ Ext w w' ∧ (i ≤ ms.length)) (fun i => ms.length - i) 0 ?_ ?_
  · refine ⟨⟨rfl, rfl, rfl, rfl, rfl, trivial⟩, (Keeps.refl _ w), ?_⟩
    · omega
  rintro i ρ_3 w_1 ⟨hH_2, K0, hi⟩ ih1
  obtain ⟨ρ₀, rfl⟩ := hH_2.ex
  clear hH_2
  refine Run.seq ?_
  refine Run.region ?_
  refine RL.val (x_ltI rfl rfl) ?_
  refine RL.nil ?_
  refine Run.seq ?_
  refine Run.cond rfl (fun hc13 => ?_) (fun hc13 => ?_)
  · try simp only [br] at hc13
    refine Run.skip ?_
    refine Run.seq ?_
    refine Run.block ?_
    refine Run.seq ?_
    obtain ⟨x0, hx0⟩ : ∃ x, (ms.map Mg.c)[i]? = some x := ⟨_, List.getElem?_eq_getElem (by omega)⟩
    obtain ⟨m, hm, hxe, hmv⟩ := mg_get hx0
    subst hxe
    refine Run.region ?_
    obtain ⟨b_4, o_5, x_8, hx_9, ha_6, hc_7⟩ := hl.el (i := i) (by first | omega | (simp only [List.length_set]; omega))
    have hc_7_lt := hc_7.lt
    replace hc_7 := hc_7.ext K0
    obtain rfl : (mkC m.v m.s) = x_8 := Option.some.inj (hx0.symm.trans hx_9)
    refine RL.val (x_idxN Tryz.underlying31 ty57 rfl rfl ha_6 (by first | omega | (simp only [List.length_set]; omega))) ?_
    refine RL.val (x_ldV (v := .agg #[.int .i64 (((mkC m.v m.s)).kind), .int .i64 (((mkC m.v m.s)).frm), .int .i64 (((mkC m.v m.s)).to), .int .i64 (((mkC m.v m.s)).req), .string (((mkC m.v m.s)).key), .slice (m.s.ea) (m.v.ent.length) (m.s.ec), .slice (m.s.ma) (m.v.mrk.length) (m.s.mc), .slice (m.s.ca) (m.v.cl.length) (m.s.cc), .int .i64 (((mkC m.v m.s)).owner), .int .i64 (((mkC m.v m.s)).part), .int .i64 (((mkC m.v m.s)).n), .int .i64 ((((mkC m.v m.s)).ring).parts), .int .i64 ((((mkC m.v m.s)).ring).copies), .int .i64 ((((mkC m.v m.s)).ring).spots), .slice (m.s.ba) (m.v.mem.length) (m.s.bc), .slice (m.s.pa) (m.v.pe.length) (m.s.pc), .slice (m.s.sa) (m.v.su.length) (m.s.sc)]) (y := (mkC m.v m.s)) ty57 rfl hc_7 rfl) ?_
    refine RL.st rfl <| St1.alloc ty57 ?_
    intro b_10 w_11 hl_14 hb_13 K_12
    replace hb_13 : Blk w_11 b_10 [.int .i64 (0), .int .i64 (0), .int .i64 (0), .int .i64 (0), .string (⟨#[]⟩), .slice (none) (0) (0), .slice (none) (0) (0), .slice (none) (0) (0), .int .i64 (0), .int .i64 (0), .int .i64 (0), .int .i64 (0), .int .i64 (0), .int .i64 (0), .slice (none) (0) (0), .slice (none) (0) (0), .slice (none) (0) (0)] 57 := hb_13
    have ne_15 : b_4 < b_10 := Nat.lt_of_lt_of_le hc_7.lt hl_14
    have : w.heap.size ≤ b_10 := Nat.le_trans K0.size hl_14
    clear hl_14
    replace hc_7 := hc_7.ext K_12
    replace K0 := K0.ext K_12
    refine RL.st rfl <| St1.store (v := .agg #[.int .i64 (((mkC m.v m.s)).kind), .int .i64 (((mkC m.v m.s)).frm), .int .i64 (((mkC m.v m.s)).to), .int .i64 (((mkC m.v m.s)).req), .string (((mkC m.v m.s)).key), .slice (m.s.ea) (m.v.ent.length) (m.s.ec), .slice (m.s.ma) (m.v.mrk.length) (m.s.mc), .slice (m.s.ca) (m.v.cl.length) (m.s.cc), .int .i64 (((mkC m.v m.s)).owner), .int .i64 (((mkC m.v m.s)).part), .int .i64 (((mkC m.v m.s)).n), .int .i64 ((((mkC m.v m.s)).ring).parts), .int .i64 ((((mkC m.v m.s)).ring).copies), .int .i64 ((((mkC m.v m.s)).ring).spots), .slice (m.s.ba) (m.v.mem.length) (m.s.bc), .slice (m.s.pa) (m.v.pe.length) (m.s.pc), .slice (m.s.sa) (m.v.su.length) (m.s.sc)]) ty57 rfl rfl rfl (by simp [Value.cells, Value.oneCell']) hb_13 (by simp) ?_
    intro w_16 hb_13_ K_17
    have hb_13' : Blk w_16 b_10 [.int .i64 (((mkC m.v m.s)).kind), .int .i64 (((mkC m.v m.s)).frm), .int .i64 (((mkC m.v m.s)).to), .int .i64 (((mkC m.v m.s)).req), .string (((mkC m.v m.s)).key), .slice (m.s.ea) (m.v.ent.length) (m.s.ec), .slice (m.s.ma) (m.v.mrk.length) (m.s.mc), .slice (m.s.ca) (m.v.cl.length) (m.s.cc), .int .i64 (((mkC m.v m.s)).owner), .int .i64 (((mkC m.v m.s)).part), .int .i64 (((mkC m.v m.s)).n), .int .i64 ((((mkC m.v m.s)).ring).parts), .int .i64 ((((mkC m.v m.s)).ring).copies), .int .i64 ((((mkC m.v m.s)).ring).spots), .slice (m.s.ba) (m.v.mem.length) (m.s.bc), .slice (m.s.pa) (m.v.pe.length) (m.s.pc), .slice (m.s.sa) (m.v.su.length) (m.s.sc)] 57 := hb_13_
    clear hb_13_
    replace hc_7 := hc_7.keep K_17 (by simp only [one]; omega)
    replace K0 := K0.new K_17 (fun x hx => by simp only [one] at hx; omega)
    replace hb_13 := hb_13'
    clear hb_13'
    refine RL.nil ?_
    refine Run.seq ?_
    refine Run.region ?_
    refine RL.val (x_moveP rfl) ?_
    refine RL.val (x_fld (o' := 1) Tryz.underlying57 rfl ty3 rfl rfl rfl) ?_
    refine RL.val (x_ld (v := .int .i64 (((mkC m.v m.s)).frm)) ty3 rfl rfl (hb_13.cl.field (i := 1) rfl)) ?_
    refine RL.val (x_fld (o' := 2) Tryz.underlying57 rfl ty3 rfl rfl rfl) ?_
    refine RL.val (x_ld (v := .int .i64 (((mkC m.v m.s)).to)) ty3 rfl rfl (hb_13.cl.field (i := 2) rfl)) ?_
    refine RL.st rfl <| St1.call (vals := [.pointer none, .int .i64 (((mkC m.v m.s)).frm), .int .i64 (((mkC m.v m.s)).to)]) en40 rfl (betweenNil _ _ _) ?_
    rintro _ w_18 ⟨rfl, K_19⟩
    replace hb_13 := hb_13.ext K_19
    replace K0 := K0.ext K_19
    refine RL.val (x_moveT rfl) ?_
    refine RL.val (x_extract rfl rfl) ?_
    refine RL.val (x_extract rfl rfl) ?_
    refine RL.st rfl <| St1.alloc ty92 ?_
    intro b_20 w_21 hl_24 hb_23 K_22
    replace hb_23 : Blk w_21 b_20 [.int .i64 (0), .int .i64 (0)] 92 := hb_23
    have ne_25 : b_10 < b_20 := Nat.lt_of_lt_of_le hb_13.lt hl_24
    have : w.heap.size ≤ b_20 := Nat.le_trans K0.size hl_24
    clear hl_24
    replace hb_13 := hb_13.ext K_22
    replace K0 := K0.ext K_22
    refine RL.st rfl <| St1.store (v := .agg #[.int .i64 (0), .int .i64 (0)]) ty92 rfl rfl rfl (by simp [Value.cells, Value.oneCell']) hb_23 (by simp) ?_
    intro w_26 hb_23_ K_27
    have hb_23' : Blk w_26 b_20 [.int .i64 (0), .int .i64 (0)] 92 := hb_23_
    clear hb_23_
    replace hb_13 := hb_13.keep K_27 (by simp only [one]; omega)
    replace K0 := K0.new K_27 (fun x hx => by simp only [one] at hx; omega)
    replace hb_23 := hb_23'
    clear hb_23'
    refine RL.val (x_assign (v := .iface 24 (.int .i64 (8))) rfl) ?_
    refine RL.nil ?_
    refine Run.seq ?_
    refine Run.region ?_
    refine RL.val (x_move (v := .iface 24 (.int .i64 (8))) rfl) ?_
    refine RL.val (x_eqIN (by kernel_rfl) rfl rfl) ?_
    refine RL.val (x_moveB rfl) ?_
    refine RL.guardF (wantedT0 rfl rfl rfl rfl) ?_
    refine RL.guardF (wantedT0 rfl rfl rfl rfl) ?_
    refine RL.guardF (wantedT0 rfl rfl rfl rfl) ?_
    refine RL.guardF (wantedT0 rfl rfl rfl rfl) ?_
    refine RL.guardF (wantedT0 rfl rfl rfl rfl) ?_
    refine RL.guardF (wantedT0 rfl rfl rfl rfl) ?_
    refine RL.val (x_and (b := false) (e := false) rfl rfl rfl) ?_
    refine RL.nil ?_
    refine Run.condF rfl ?_
    refine Run.skip ?_
    refine Run.inBlock ?_
    refine Run.region ?_
    refine RL.val (litI (c := ((i + 1 : Nat) : Int)) (x_add rfl rfl (by omega) (by omega)) rfl) ?_
    refine RL.val (x_moveI rfl) ?_
    refine RL.nil ?_
    refine ih1 (i + 1) _ _ ?_ (by omega)
    refine ⟨⟨rfl, rfl, rfl, rfl, rfl, trivial⟩, K0, ?_⟩
    · omega
  · try simp only [br] at hc13
    refine Run.exit rfl ?_
    refine Run.seq ?_
    refine Run.region ?_
    refine RL.val (x_moveI rfl) ?_
    refine RL.val (x_assignI rfl) ?_
    refine RL.nil ?_
    refine Run.ret1 (v := .int .i64 (0)) Tryz.func13 rfl rfl ?_
    exact ⟨_, rfl, rfl, K0⟩

set_option maxRecDepth 100000 in
set_option maxHeartbeats 4000000 in
theorem sendZero (b : Nat) (al : Option Addr) (ms : List Mg) (lc : Nat) (w : World) (hB : Blk w b [.int .i64 0, .map none, .map none, .int .i64 0, .int .i64 0] 64) (hl : SlOf w al (ms.map Mg.c)) (hml : ms.length ≤ 1048576) :
    Calls Tryz.prog 13 #[.pointer (some ⟨b, 0, none⟩), .slice (al) ((ms.map Mg.c).length) (lc)] w (Ret (fun v w' => v = .int .i64 0 ∧ Ext w w')) := by
  have hmc : (ms.map Mg.c).length = ms.length := List.length_map ..
  refine calls_run (n := 42) Tryz.func13 rfl rfl rfl ?_
  refine Run.seq ?_
  refine Run.region ?_
  refine RL.val (x_assignI rfl) ?_
  refine RL.nil ?_
  refine Run.seq ?_
  refine Run.region ?_
  refine RL.val (x_assignI rfl) ?_
  refine RL.nil ?_
  refine Run.seq ?_
  refine Run.seq ?_
  refine Run.region ?_
  refine RL.val (x_moveSl rfl) ?_
  refine RL.val (x_lenSl Tryz.underlying31 rfl) ?_
  refine RL.val (x_moveI rfl) ?_
  refine RL.nil ?_
  refine Run.block ?_
  refine Run.loop (ι := Nat) (fun i ρ' w' => Holds ρ' [(0, .pointer (some ⟨b, 0, none⟩)), (5, .int .i64 (0)), (10, .slice (al) ((ms.map Mg.c).length) (lc)), (11, .int .i64 ((((ms.map Mg.c).length : Nat) : Int))), (12, .int .i64 (((i : Nat) : Int)))] ∧ Ext w w' ∧ (Blk w' b [.int .i64 (0), .map none, .map none, .int .i64 (0), .int .i64 (0)] 64) ∧ (i ≤ ms.length)) (fun i => ms.length - i) 0 ?_ ?_
  · refine ⟨⟨rfl, rfl, rfl, rfl, rfl, trivial⟩, (Keeps.refl _ w), hB, ?_⟩
    · omega
  clear hB
  rintro i ρ_3 w_1 ⟨hH_2, K0, hB, hi⟩ ih1
  obtain ⟨ρ₀, rfl⟩ := hH_2.ex
  clear hH_2
  refine Run.seq ?_
  refine Run.region ?_
  refine RL.val (x_ltI rfl rfl) ?_
  refine RL.nil ?_
  refine Run.seq ?_
  refine Run.cond rfl (fun hc13 => ?_) (fun hc13 => ?_)
  · try simp only [br] at hc13
    refine Run.skip ?_
    refine Run.seq ?_
    refine Run.block ?_
    refine Run.seq ?_
    obtain ⟨x0, hx0⟩ : ∃ x, (ms.map Mg.c)[i]? = some x := ⟨_, List.getElem?_eq_getElem (by omega)⟩
    obtain ⟨m, hm, hxe, hmv⟩ := mg_get hx0
    subst hxe
    refine Run.region ?_
    obtain ⟨b_4, o_5, x_8, hx_9, ha_6, hc_7⟩ := hl.el (i := i) (by first | omega | (simp only [List.length_set]; omega))
    have hc_7_lt := hc_7.lt
    replace hc_7 := hc_7.ext K0
    obtain rfl : (mkC m.v m.s) = x_8 := Option.some.inj (hx0.symm.trans hx_9)
    refine RL.val (x_idxN Tryz.underlying31 ty57 rfl rfl ha_6 (by first | omega | (simp only [List.length_set]; omega))) ?_
    refine RL.val (x_ldV (v := .agg #[.int .i64 (((mkC m.v m.s)).kind), .int .i64 (((mkC m.v m.s)).frm), .int .i64 (((mkC m.v m.s)).to), .int .i64 (((mkC m.v m.s)).req), .string (((mkC m.v m.s)).key), .slice (m.s.ea) (m.v.ent.length) (m.s.ec), .slice (m.s.ma) (m.v.mrk.length) (m.s.mc), .slice (m.s.ca) (m.v.cl.length) (m.s.cc), .int .i64 (((mkC m.v m.s)).owner), .int .i64 (((mkC m.v m.s)).part), .int .i64 (((mkC m.v m.s)).n), .int .i64 ((((mkC m.v m.s)).ring).parts), .int .i64 ((((mkC m.v m.s)).ring).copies), .int .i64 ((((mkC m.v m.s)).ring).spots), .slice (m.s.ba) (m.v.mem.length) (m.s.bc), .slice (m.s.pa) (m.v.pe.length) (m.s.pc), .slice (m.s.sa) (m.v.su.length) (m.s.sc)]) (y := (mkC m.v m.s)) ty57 rfl hc_7 rfl) ?_
    refine RL.st rfl <| St1.alloc ty57 ?_
    intro b_10 w_11 hl_14 hb_13 K_12
    replace hb_13 : Blk w_11 b_10 [.int .i64 (0), .int .i64 (0), .int .i64 (0), .int .i64 (0), .string (⟨#[]⟩), .slice (none) (0) (0), .slice (none) (0) (0), .slice (none) (0) (0), .int .i64 (0), .int .i64 (0), .int .i64 (0), .int .i64 (0), .int .i64 (0), .int .i64 (0), .slice (none) (0) (0), .slice (none) (0) (0), .slice (none) (0) (0)] 57 := hb_13
    have ne_15 : b < b_10 := Nat.lt_of_lt_of_le hB.lt hl_14
    have ne_16 : b_4 < b_10 := Nat.lt_of_lt_of_le hc_7.lt hl_14
    have : w.heap.size ≤ b_10 := Nat.le_trans K0.size hl_14
    clear hl_14
    replace hB := hB.ext K_12
    replace hc_7 := hc_7.ext K_12
    replace K0 := K0.ext K_12
    refine RL.st rfl <| St1.store (v := .agg #[.int .i64 (((mkC m.v m.s)).kind), .int .i64 (((mkC m.v m.s)).frm), .int .i64 (((mkC m.v m.s)).to), .int .i64 (((mkC m.v m.s)).req), .string (((mkC m.v m.s)).key), .slice (m.s.ea) (m.v.ent.length) (m.s.ec), .slice (m.s.ma) (m.v.mrk.length) (m.s.mc), .slice (m.s.ca) (m.v.cl.length) (m.s.cc), .int .i64 (((mkC m.v m.s)).owner), .int .i64 (((mkC m.v m.s)).part), .int .i64 (((mkC m.v m.s)).n), .int .i64 ((((mkC m.v m.s)).ring).parts), .int .i64 ((((mkC m.v m.s)).ring).copies), .int .i64 ((((mkC m.v m.s)).ring).spots), .slice (m.s.ba) (m.v.mem.length) (m.s.bc), .slice (m.s.pa) (m.v.pe.length) (m.s.pc), .slice (m.s.sa) (m.v.su.length) (m.s.sc)]) ty57 rfl rfl rfl (by simp [Value.cells, Value.oneCell']) hb_13 (by simp) ?_
    intro w_17 hb_13_ K_18
    have hb_13' : Blk w_17 b_10 [.int .i64 (((mkC m.v m.s)).kind), .int .i64 (((mkC m.v m.s)).frm), .int .i64 (((mkC m.v m.s)).to), .int .i64 (((mkC m.v m.s)).req), .string (((mkC m.v m.s)).key), .slice (m.s.ea) (m.v.ent.length) (m.s.ec), .slice (m.s.ma) (m.v.mrk.length) (m.s.mc), .slice (m.s.ca) (m.v.cl.length) (m.s.cc), .int .i64 (((mkC m.v m.s)).owner), .int .i64 (((mkC m.v m.s)).part), .int .i64 (((mkC m.v m.s)).n), .int .i64 ((((mkC m.v m.s)).ring).parts), .int .i64 ((((mkC m.v m.s)).ring).copies), .int .i64 ((((mkC m.v m.s)).ring).spots), .slice (m.s.ba) (m.v.mem.length) (m.s.bc), .slice (m.s.pa) (m.v.pe.length) (m.s.pc), .slice (m.s.sa) (m.v.su.length) (m.s.sc)] 57 := hb_13_
    clear hb_13_
    replace hB := hB.keep K_18 (by simp only [one]; omega)
    replace hc_7 := hc_7.keep K_18 (by simp only [one]; omega)
    replace K0 := K0.new K_18 (fun x hx => by simp only [one] at hx; omega)
    replace hb_13 := hb_13'
    clear hb_13'
    refine RL.nil ?_
    refine Run.seq ?_
    refine Run.region ?_
    refine RL.val (x_moveP rfl) ?_
    refine RL.val (x_fld (o' := 1) Tryz.underlying57 rfl ty3 rfl rfl rfl) ?_
    refine RL.val (x_ld (v := .int .i64 (((mkC m.v m.s)).frm)) ty3 rfl rfl (hb_13.cl.field (i := 1) rfl)) ?_
    refine RL.val (x_fld (o' := 2) Tryz.underlying57 rfl ty3 rfl rfl rfl) ?_
    refine RL.val (x_ld (v := .int .i64 (((mkC m.v m.s)).to)) ty3 rfl rfl (hb_13.cl.field (i := 2) rfl)) ?_
    refine RL.st rfl <| St1.call (vals := [.pointer (some ⟨b, 0, none⟩), .int .i64 (((mkC m.v m.s)).frm), .int .i64 (((mkC m.v m.s)).to)]) en40 rfl (betweenZero _ _ _ _ hB) ?_
    rintro _ w_19 ⟨rfl, K_20⟩
    replace hB := hB.ext K_20
    replace hb_13 := hb_13.ext K_20
    replace K0 := K0.ext K_20
    refine RL.val (x_moveT rfl) ?_
    refine RL.val (x_extract rfl rfl) ?_
    refine RL.val (x_extract rfl rfl) ?_
    refine RL.st rfl <| St1.alloc ty92 ?_
    intro b_21 w_22 hl_25 hb_24 K_23
    replace hb_24 : Blk w_22 b_21 [.int .i64 (0), .int .i64 (0)] 92 := hb_24
    have ne_26 : b < b_21 := Nat.lt_of_lt_of_le hB.lt hl_25
    have ne_27 : b_10 < b_21 := Nat.lt_of_lt_of_le hb_13.lt hl_25
    have : w.heap.size ≤ b_21 := Nat.le_trans K0.size hl_25
    clear hl_25
    replace hB := hB.ext K_23
    replace hb_13 := hb_13.ext K_23
    replace K0 := K0.ext K_23
    refine RL.st rfl <| St1.store (v := .agg #[.int .i64 (0), .int .i64 (0)]) ty92 rfl rfl rfl (by simp [Value.cells, Value.oneCell']) hb_24 (by simp) ?_
    intro w_28 hb_24_ K_29
    have hb_24' : Blk w_28 b_21 [.int .i64 (0), .int .i64 (0)] 92 := hb_24_
    clear hb_24_
    replace hB := hB.keep K_29 (by simp only [one]; omega)
    replace hb_13 := hb_13.keep K_29 (by simp only [one]; omega)
    replace K0 := K0.new K_29 (fun x hx => by simp only [one] at hx; omega)
    replace hb_24 := hb_24'
    clear hb_24'
    refine RL.val (x_assign (v := .iface 24 (.int .i64 (8))) rfl) ?_
    refine RL.nil ?_
    refine Run.seq ?_
    refine Run.region ?_
    refine RL.val (x_move (v := .iface 24 (.int .i64 (8))) rfl) ?_
    refine RL.val (x_eqIN (by kernel_rfl) rfl rfl) ?_
    refine RL.val (x_moveB rfl) ?_
    refine RL.guardF (wantedT0 rfl rfl rfl rfl) ?_
    refine RL.guardF (wantedT0 rfl rfl rfl rfl) ?_
    refine RL.guardF (wantedT0 rfl rfl rfl rfl) ?_
    refine RL.guardF (wantedT0 rfl rfl rfl rfl) ?_
    refine RL.guardF (wantedT0 rfl rfl rfl rfl) ?_
    refine RL.guardF (wantedT0 rfl rfl rfl rfl) ?_
    refine RL.val (x_and (b := false) (e := false) rfl rfl rfl) ?_
    refine RL.nil ?_
    refine Run.condF rfl ?_
    refine Run.skip ?_
    refine Run.inBlock ?_
    refine Run.region ?_
    refine RL.val (litI (c := ((i + 1 : Nat) : Int)) (x_add rfl rfl (by omega) (by omega)) rfl) ?_
    refine RL.val (x_moveI rfl) ?_
    refine RL.nil ?_
    refine ih1 (i + 1) _ _ ?_ (by omega)
    refine ⟨⟨rfl, rfl, rfl, rfl, rfl, trivial⟩, K0, hB, ?_⟩
    · omega
  · try simp only [br] at hc13
    refine Run.exit rfl ?_
    refine Run.seq ?_
    refine Run.region ?_
    refine RL.val (x_moveI rfl) ?_
    refine RL.val (x_assignI rfl) ?_
    refine RL.nil ?_
    refine Run.ret1 (v := .int .i64 (0)) Tryz.func13 rfl rfl ?_
    exact ⟨_, rfl, rfl, K0⟩

end Go.Proofs.YtdlaoncjiolckaaGreat
