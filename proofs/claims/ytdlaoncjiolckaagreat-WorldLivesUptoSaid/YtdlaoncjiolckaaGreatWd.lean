/-
  Layer 22's walks, third part.
-/
import Derived.Test.YtdlaoncjiolckaaGreatRows
import Derived.Test.YtdlaoncjiolckaaGreatWc
import Derived.Test.YtdlaoncjiolckaaGreatErr
namespace Go.Proofs.YtdlaoncjiolckaaGreat
attribute [local irreducible] St1 RL RA RT RT1 Run

theorem mp_of {ts : List Pk} {m : Nat} (h : ¬ mgsS ts m) : ∀ q, mgsS ts q → ¬ one m q := fun q hq e => h ((show q = m from e) ▸ hq)
theorem rp_of {s : Six} {v : MV} {m : Nat} (h : ¬ rdS s v m) : ∀ q, rdS s v q → ¬ one m q := fun q hq e => h ((show q = m from e) ▸ hq)
theorem cp_of {pm cm : Nat} (h : pm ≠ cm) : ∀ q, one cm q → ¬ one pm q := fun q e1 e2 => h ((show q = pm from e2).symm.trans (show q = cm from e1))
theorem wf_b {b pm cm : Nat} : wF b pm cm b := .inl rfl
theorem wf_p {b pm cm : Nat} : ∀ q, one pm q → wF b pm cm q := fun _ h => .inr (.inl h)
theorem wf_c {b pm cm : Nat} : ∀ q, one cm q → wF b pm cm q := fun _ h => .inr (.inr h)
section
variable {w : World} {p : Pk} {ts l1 l2 : List Pk} {nodes id now i a b : Int} {v : MV} {s : Six} {cs : List LinkC}
theorem MgsAt.open (h : MgsAt w ts) (e : ts = l1 ++ p :: l2) : MgAt w p ∧ MgsAt w (l1 ++ l2) ∧ ∀ q, mgsS (l1 ++ l2) q → ¬ ownS p.s q := by
  subst e
  refine ⟨h.all p (by simp), h.sub mid_sub, fun q ⟨f, hf, hq⟩ h2 => ?_⟩
  have hp := h.apart
  rcases List.mem_append.1 hf with hf | hf
  · exact (List.pairwise_append.1 hp).2.2 f hf p (by simp) q hq h2
  · exact (List.pairwise_cons.1 (List.pairwise_append.1 hp).2.1).1 f hf q h2 hq
theorem mgs_p (e : ts = l1 ++ p :: l2) : ∀ q, ownS p.s q → mgsS ts q := by subst e; exact fun q h => ⟨p, by simp, h⟩
theorem mgs_r (e : ts = l1 ++ p :: l2) : ∀ q, mgsS (l1 ++ l2) q → mgsS ts q := by subst e; exact mgs_sub mid_sub
theorem WOk.del (h : WOk nodes id now (ts.map Pk.p)) (e : ts = l1 ++ p :: l2) : WOk nodes id now ((l1 ++ l2).map Pk.p) := by subst e; exact h.sub (mid_sub.map _)
theorem two_no (h : (nodeB nodes a = false ∨ nodeB nodes b = false) ∨ a = b) : twoB nodes a b = false := by
  rcases h with (h | h) | h
  · rw [twoB, h]; rfl
  · rw [twoB, h, Bool.and_false]; rfl
  · rw [twoB, h]; simp
theorem two_yes (h1 : nodeB nodes a = true) (h2 : nodeB nodes b = true) (h3 : ¬ a = b) : twoB nodes a b = true := by rw [twoB, h1, h2]; simpa using h3
theorem cget : mget (cents cs) (lk a b) = if lk a b ∈ cs then some (.agg #[]) else none := by
  unfold mget cents
  split
  · rename_i h
    have : ((cs.map fun c => (c, (.agg #[] : Value))).find? (fun p => decide (lk a b = p.1))).isSome := by
      rw [List.find?_isSome]
      exact ⟨(lk a b, .agg #[]), List.mem_map.2 ⟨_, h, rfl⟩, by simp⟩
    obtain ⟨x, hx⟩ := Option.isSome_iff_exists.1 this
    rw [hx]
    obtain ⟨y, _, rfl⟩ := List.mem_map.1 (List.mem_of_find?_eq_some hx)
    rfl
  · rename_i h
    rw [Option.map_eq_none_iff, List.find?_eq_none]
    intro x hx
    obtain ⟨y, hy, rfl⟩ := List.mem_map.1 hx
    simp only [decide_eq_true_eq]
    exact fun e => h (e ▸ hy)
end

theorem ty61 : Ty Tryz.prog 61 1 8 (.map none) false := ty_of (by kernel_rfl) (by kernel_rfl)
theorem ty92 : Ty Tryz.prog 92 2 16 (.agg #[.int .i64 (0), .int .i64 (0)]) true := ty_of (by kernel_rfl) (by kernel_rfl)
theorem en31 : Enters Tryz.prog 31 := enters_of Tryz.func31 rfl (by kernel_rfl)
theorem en36 : Enters Tryz.prog 36 := enters_of Tryz.func36 rfl (by kernel_rfl)
theorem en58 : Enters Tryz.prog 58 := enters_of Tryz.func58 rfl (by kernel_rfl)

set_option maxRecDepth 100000 in
set_option maxHeartbeats 4000000 in
theorem madeNil  (w : World) :
    Calls Tryz.prog 31 #[.pointer none] w (Ret (fun v w' => v = .bool false ∧ Ext w w')) := by
  refine calls_run (n := 12) Tryz.func31 rfl rfl rfl ?_
  refine Run.seq ?_
  refine Run.region ?_
  refine RL.val (x_assignB rfl) ?_
  refine RL.nil ?_
  refine Run.seq ?_
  refine Run.region ?_
  refine RL.val (x_moveP rfl) ?_
  refine RL.val (litF (x_ptrNotNil Tryz.underlying23 rfl rfl) rfl) ?_
  refine RL.val (x_moveB rfl) ?_
  refine RL.guardF (wantedT0 rfl rfl rfl rfl) ?_
  refine RL.guardF (wantedT0 rfl rfl rfl rfl) ?_
  refine RL.guardF (wantedT0 rfl rfl rfl rfl) ?_
  refine RL.guardF (wantedT0 rfl rfl rfl rfl) ?_
  refine RL.guardF (wantedT0 rfl rfl rfl rfl) ?_
  refine RL.val (x_and (b := false) (e := false) rfl rfl rfl) ?_
  refine RL.val (x_assignB rfl) ?_
  refine RL.nil ?_
  refine Run.ret1 (v := .bool (false)) Tryz.func31 rfl rfl ?_
  exact ⟨_, rfl, rfl, (Keeps.refl _ w)⟩

set_option maxRecDepth 100000 in
set_option maxHeartbeats 4000000 in
theorem madeZero (b : Nat) (w : World) (hB : Blk w b [.int .i64 0, .map none, .map none, .int .i64 0, .int .i64 0] 64) :
    Calls Tryz.prog 31 #[.pointer (some ⟨b, 0, none⟩)] w (Ret (fun v w' => v = .bool false ∧ Ext w w')) := by
  refine calls_run (n := 12) Tryz.func31 rfl rfl rfl ?_
  refine Run.seq ?_
  refine Run.region ?_
  refine RL.val (x_assignB rfl) ?_
  refine RL.nil ?_
  refine Run.seq ?_
  refine Run.region ?_
  refine RL.val (x_moveP rfl) ?_
  refine RL.val (litT (x_ptrNotNil Tryz.underlying23 rfl rfl) rfl) ?_
  refine RL.val (x_moveB rfl) ?_
  refine RL.gst (wantedT1 rfl rfl rfl rfl) <| St1.val (x_moveP rfl) ?_
  refine RL.gst (wantedT1 rfl rfl rfl rfl) <| St1.val (x_nilCheck rfl) ?_
  refine RL.gst (wantedT1 rfl rfl rfl rfl) <| St1.val (x_fld (o' := 0) Tryz.underlying64 rfl ty3 rfl rfl rfl) ?_
  refine RL.gst (wantedT1 rfl rfl rfl rfl) <| St1.val (x_ld (v := .int .i64 (0)) ty3 rfl rfl (hB.cl.field (i := 0) rfl)) ?_
  refine RL.gst (wantedT1 rfl rfl rfl rfl) <| St1.val (litF (x_gtI rfl rfl) (by decide)) ?_
  refine RL.val (x_andT rfl rfl rfl) ?_
  refine RL.val (x_assignB rfl) ?_
  refine RL.nil ?_
  refine Run.ret1 (v := .bool (false)) Tryz.func31 rfl rfl ?_
  exact ⟨_, rfl, rfl, (Keeps.refl _ w)⟩

set_option maxRecDepth 100000 in
set_option maxHeartbeats 4000000 in
theorem made_ (b pm cm : Nat) (nodes id now : Int) (ts : List Pk) (cs : List LinkC) (w : World) (hD : WldO w b pm cm nodes id now ts cs) :
    Calls Tryz.prog 31 #[.pointer (some ⟨b, 0, none⟩)] w (Ret (fun v w' => v = .bool true ∧ w = w')) := by
  obtain ⟨hB, hP, hC, hM, hn1, hn2, hn3, hsb, hsp, hsc, hok⟩ := hD
  obtain ⟨hno1, hno2⟩ := hok.nodes
  obtain ⟨hnw1, hnw2⟩ := hok.now
  have hid0 := hok.id0
  have hl5 := hok.len
  rw [p_len] at hl5
  have hpl := pents_len ts
  refine calls_run (n := 12) Tryz.func31 rfl rfl rfl ?_
  refine Run.seq ?_
  refine Run.region ?_
  refine RL.val (x_assignB rfl) ?_
  refine RL.nil ?_
  refine Run.seq ?_
  refine Run.region ?_
  refine RL.val (x_moveP rfl) ?_
  refine RL.val (litT (x_ptrNotNil Tryz.underlying23 rfl rfl) rfl) ?_
  refine RL.val (x_moveB rfl) ?_
  refine RL.gst (wantedT1 rfl rfl rfl rfl) <| St1.val (x_moveP rfl) ?_
  refine RL.gst (wantedT1 rfl rfl rfl rfl) <| St1.val (x_nilCheck rfl) ?_
  refine RL.gst (wantedT1 rfl rfl rfl rfl) <| St1.val (x_fld (o' := 0) Tryz.underlying64 rfl ty3 rfl rfl rfl) ?_
  refine RL.gst (wantedT1 rfl rfl rfl rfl) <| St1.val (x_ld (v := .int .i64 (nodes)) ty3 rfl rfl (hB.cl.field (i := 0) rfl)) ?_
  refine RL.gst (wantedT1 rfl rfl rfl rfl) <| St1.val (litT (x_gtI rfl rfl) (by first | (simp; done) | (simp; omega))) ?_
  refine RL.val (litT (x_andT rfl rfl rfl) (by first | (simp; done) | (simp; omega))) ?_
  refine RL.val (x_assignB rfl) ?_
  refine RL.nil ?_
  refine Run.ret1 (v := .bool (true)) Tryz.func31 rfl rfl ?_
  exact ⟨_, rfl, rfl, rfl⟩

set_option maxRecDepth 100000 in
set_option maxHeartbeats 4000000 in
theorem node_ (b pm cm : Nat) (nodes id now : Int) (ts : List Pk) (cs : List LinkC) (n : Int) (w : World) (hD : WldO w b pm cm nodes id now ts cs) :
    Calls Tryz.prog 58 #[.pointer (some ⟨b, 0, none⟩), .int .i64 (n)] w (Ret (fun v w' => v = .bool (nodeB nodes n) ∧ Ext w w')) := by
  obtain ⟨hB, hP, hC, hM, hn1, hn2, hn3, hsb, hsp, hsc, hok⟩ := hD
  obtain ⟨hno1, hno2⟩ := hok.nodes
  obtain ⟨hnw1, hnw2⟩ := hok.now
  have hid0 := hok.id0
  have hl5 := hok.len
  rw [p_len] at hl5
  have hpl := pents_len ts
  refine calls_run (n := 15) Tryz.func58 rfl rfl rfl ?_
  refine Run.seq ?_
  refine Run.region ?_
  refine RL.val (x_assignB rfl) ?_
  refine RL.nil ?_
  refine Run.seq ?_
  refine Run.region ?_
  refine RL.val (x_moveI rfl) ?_
  refine RL.val (x_geI rfl rfl) ?_
  refine RL.val (x_moveB rfl) ?_
  refine RL.gval (wantedT rfl rfl rfl rfl) (fun hg => (x_moveI rfl)) ?_
  refine RL.gval (wantedT rfl rfl rfl rfl) (fun hg => (x_moveP rfl)) ?_
  refine RL.gval (wantedT rfl rfl rfl rfl) (fun hg => (x_nilCheck (gvr hg))) ?_
  refine RL.gval (wantedT rfl rfl rfl rfl) (fun hg => (x_fld (o' := 0) Tryz.underlying64 rfl ty3 rfl (gvr hg) rfl)) ?_
  refine RL.gval (wantedT rfl rfl rfl rfl) (fun hg => (x_ld (v := .int .i64 (nodes)) ty3 (gvr hg) rfl (hB.cl.field (i := 0) rfl))) ?_
  refine RL.gval (wantedT rfl rfl rfl rfl) (fun hg => (x_ltI (gvr hg) (gvr hg))) ?_
  refine RL.val (x_and rfl rfl rfl) ?_
  refine RL.val (x_assignB rfl) ?_
  refine RL.nil ?_
  refine Run.ret1 (v := .bool ((decide (0 ≤ n)) && (decide (n < nodes)))) Tryz.func58 rfl rfl ?_
  exact ⟨_, rfl, rfl, (Keeps.refl _ w)⟩

set_option maxRecDepth 100000 in
set_option maxHeartbeats 4000000 in
theorem betweenNil  (x y : Int) (w : World) :
    Calls Tryz.prog 40 #[.pointer none, .int .i64 (x), .int .i64 (y)] w (Ret (fun v w' => v = .tuple #[.agg #[.int .i64 0, .int .i64 0], .iface 24 (.int .i64 8)] ∧ Ext w w')) := by
  refine calls_run (n := 37) Tryz.func40 rfl rfl rfl ?_
  refine Run.seq ?_
  refine Run.region ?_
  refine RL.st rfl <| St1.alloc ty92 ?_
  intro b_1 w_2 hl_5 hb_4 K_3
  replace hb_4 : Blk w_2 b_1 [.int .i64 (0), .int .i64 (0)] 92 := hb_4
  have : w.heap.size ≤ b_1 := hl_5
  clear hl_5
  have K0 := (K_3 : Ext w _)
  refine RL.val (x_assign (v := .nilIface) rfl) ?_
  refine RL.nil ?_
  refine Run.seq ?_
  refine Run.seq ?_
  refine Run.region ?_
  refine RL.val (x_moveP rfl) ?_
  refine RL.st rfl <| St1.call (vals := [.pointer none]) en31 rfl (madeNil  _) ?_
  rintro _ w_6 ⟨rfl, K_7⟩
  replace hb_4 := hb_4.ext K_7
  replace K0 := K0.ext K_7
  refine RL.val (x_not (b := false) rfl) ?_
  refine RL.nil ?_
  refine Run.condT rfl ?_
  refine Run.seq ?_
  refine Run.region ?_
  refine RL.val (x_build (cells := #[.int .i64 (0), .int .i64 (0)]) (by kernel_rfl)) ?_
  refine RL.val (x_mkIfaceI (v := .int .i64 (8)) Tryz.underlying24 rfl) ?_
  refine RL.st rfl <| St1.store (v := .agg #[.int .i64 (0), .int .i64 (0)]) ty92 rfl rfl rfl (by simp [Value.cells, Value.oneCell']) hb_4 (by simp) ?_
  intro w_8 hb_4_ K_9
  have hb_4' : Blk w_8 b_1 [.int .i64 (0), .int .i64 (0)] 92 := hb_4_
  clear hb_4_
  replace K0 := K0.new K_9 (fun x hx => by simp only [one] at hx; omega)
  replace hb_4 := hb_4'
  clear hb_4'
  refine RL.val (x_assign (v := .iface 24 (.int .i64 (8))) rfl) ?_
  refine RL.nil ?_
  refine Run.retCT (x := .iface 24 (.int .i64 (8))) (cs := #[.int .i64 (0), .int .i64 (0)]) Tryz.func40 rfl ty92 rfl rfl hb_4.cl rfl ?_
  exact ⟨_, rfl, rfl, K0⟩

set_option maxRecDepth 100000 in
set_option maxHeartbeats 4000000 in
theorem betweenZero (b : Nat) (x y : Int) (w : World) (hB : Blk w b [.int .i64 0, .map none, .map none, .int .i64 0, .int .i64 0] 64) :
    Calls Tryz.prog 40 #[.pointer (some ⟨b, 0, none⟩), .int .i64 (x), .int .i64 (y)] w (Ret (fun v w' => v = .tuple #[.agg #[.int .i64 0, .int .i64 0], .iface 24 (.int .i64 8)] ∧ Ext w w')) := by
  refine calls_run (n := 37) Tryz.func40 rfl rfl rfl ?_
  refine Run.seq ?_
  refine Run.region ?_
  refine RL.st rfl <| St1.alloc ty92 ?_
  intro b_1 w_2 hl_5 hb_4 K_3
  replace hb_4 : Blk w_2 b_1 [.int .i64 (0), .int .i64 (0)] 92 := hb_4
  have ne_6 : b < b_1 := Nat.lt_of_lt_of_le hB.lt hl_5
  have : w.heap.size ≤ b_1 := hl_5
  clear hl_5
  replace hB := hB.ext K_3
  have K0 := (K_3 : Ext w _)
  refine RL.val (x_assign (v := .nilIface) rfl) ?_
  refine RL.nil ?_
  refine Run.seq ?_
  refine Run.seq ?_
  refine Run.region ?_
  refine RL.val (x_moveP rfl) ?_
  refine RL.st rfl <| St1.call (vals := [.pointer (some ⟨b, 0, none⟩)]) en31 rfl (madeZero _  _ hB) ?_
  rintro _ w_7 ⟨rfl, K_8⟩
  replace hB := hB.ext K_8
  replace hb_4 := hb_4.ext K_8
  replace K0 := K0.ext K_8
  refine RL.val (x_not (b := false) rfl) ?_
  refine RL.nil ?_
  refine Run.condT rfl ?_
  refine Run.seq ?_
  refine Run.region ?_
  refine RL.val (x_build (cells := #[.int .i64 (0), .int .i64 (0)]) (by kernel_rfl)) ?_
  refine RL.val (x_mkIfaceI (v := .int .i64 (8)) Tryz.underlying24 rfl) ?_
  refine RL.st rfl <| St1.store (v := .agg #[.int .i64 (0), .int .i64 (0)]) ty92 rfl rfl rfl (by simp [Value.cells, Value.oneCell']) hb_4 (by simp) ?_
  intro w_9 hb_4_ K_10
  have hb_4' : Blk w_9 b_1 [.int .i64 (0), .int .i64 (0)] 92 := hb_4_
  clear hb_4_
  replace hB := hB.keep K_10 (by simp only [one]; omega)
  replace K0 := K0.new K_10 (fun x hx => by simp only [one] at hx; omega)
  replace hb_4 := hb_4'
  clear hb_4'
  refine RL.val (x_assign (v := .iface 24 (.int .i64 (8))) rfl) ?_
  refine RL.nil ?_
  refine Run.retCT (x := .iface 24 (.int .i64 (8))) (cs := #[.int .i64 (0), .int .i64 (0)]) Tryz.func40 rfl ty92 rfl rfl hb_4.cl rfl ?_
  exact ⟨_, rfl, rfl, K0⟩

set_option maxRecDepth 100000 in
set_option maxHeartbeats 4000000 in
theorem between_ (b pm cm : Nat) (nodes id now : Int) (ts : List Pk) (cs : List LinkC) (x y : Int) (w : World) (hD : WldO w b pm cm nodes id now ts cs) :
    Calls Tryz.prog 40 #[.pointer (some ⟨b, 0, none⟩), .int .i64 (x), .int .i64 (y)] w (Ret (fun v w' => (twoB nodes x y = false ∧ v = .tuple #[.agg #[.int .i64 0, .int .i64 0], .iface 24 (.int .i64 1)] ∧ Ext w w') ∨ (twoB nodes x y = true ∧ v = .tuple #[.agg #[.int .i64 (min x y), .int .i64 (max x y)], .nilIface] ∧ Ext w w'))) := by
  obtain ⟨hB, hP, hC, hM, hn1, hn2, hn3, hsb, hsp, hsc, hok⟩ := hD
  obtain ⟨hno1, hno2⟩ := hok.nodes
  obtain ⟨hnw1, hnw2⟩ := hok.now
  have hid0 := hok.id0
  have hl5 := hok.len
  rw [p_len] at hl5
  have hpl := pents_len ts
  refine calls_run (n := 37) Tryz.func40 rfl rfl rfl ?_
  refine Run.seq ?_
  refine Run.region ?_
  refine RL.st rfl <| St1.alloc ty92 ?_
  intro b_1 w_2 hl_5 hb_4 K_3
  replace hb_4 : Blk w_2 b_1 [.int .i64 (0), .int .i64 (0)] 92 := hb_4
  have ne_6 : b < b_1 := Nat.lt_of_lt_of_le hB.lt hl_5
  have pr_7 : ¬ one pm b_1 := fun h => absurd (hP.own_lt _ h) (by omega)
  have pr_8 : ¬ one cm b_1 := fun h => absurd (hC.own_lt _ h) (by omega)
  have pr_9 : ¬ mgsS ts b_1 := fun h => absurd (hM.own_lt _ h) (by omega)
  have : w.heap.size ≤ b_1 := hl_5
  clear hl_5
  replace hB := hB.ext K_3
  replace hP := hP.ext K_3
  replace hC := hC.ext K_3
  replace hM := hM.ext K_3
  have K0 := (K_3 : Ext w _)
  refine RL.val (x_assign (v := .nilIface) rfl) ?_
  refine RL.nil ?_
  refine Run.seq ?_
  refine Run.seq ?_
  refine Run.region ?_
  refine RL.val (x_moveP rfl) ?_
  refine RL.st rfl <| St1.call (vals := [.pointer (some ⟨b, 0, none⟩)]) en31 rfl (made_ b pm cm nodes id now ts cs _ (⟨hB, hP, hC, hM, hn1, hn2, hn3, hsb, (fun h_ => (mp_of hsp) _ h_ rfl), (fun h_ => (mp_of hsc) _ h_ rfl), hok⟩ : WldO _ b pm cm nodes id now ts cs)) ?_
  rintro _ _ ⟨rfl, rfl⟩
  refine RL.val (x_not (b := true) rfl) ?_
  refine RL.nil ?_
  refine Run.condF rfl ?_
  refine Run.skip ?_
  refine Run.seq ?_
  refine Run.seq ?_
  refine Run.region ?_
  refine RL.val (x_moveP rfl) ?_
  refine RL.val (x_moveI rfl) ?_
  refine RL.st rfl <| St1.call (vals := [.pointer (some ⟨b, 0, none⟩), .int .i64 (x)]) en58 rfl (node_ b pm cm nodes id now ts cs x _ (⟨hB, hP, hC, hM, hn1, hn2, hn3, hsb, (fun h_ => (mp_of hsp) _ h_ rfl), (fun h_ => (mp_of hsc) _ h_ rfl), hok⟩ : WldO _ b pm cm nodes id now ts cs)) ?_
  rintro _ w_10 ⟨rfl, K_11⟩
  replace hB := hB.ext K_11
  replace hP := hP.ext K_11
  replace hC := hC.ext K_11
  replace hM := hM.ext K_11
  replace hb_4 := hb_4.ext K_11
  replace K0 := K0.ext K_11
  refine RL.val (x_not rfl) ?_
  refine RL.val (x_moveB rfl) ?_
  refine RL.gval (wantedF rfl rfl rfl rfl) (fun hg => (x_moveP rfl)) ?_
  refine RL.gval (wantedF rfl rfl rfl rfl) (fun hg => (x_moveI rfl)) ?_
  refine RL.gcall (vals := [.pointer (some ⟨b, 0, none⟩), .int .i64 (y)]) (wantedF rfl rfl rfl rfl) en58 (fun hg => (mcons (gvr hg) (mcons (gvr hg) mnil))) (fun hg => (node_ b pm cm nodes id now ts cs y _ (⟨hB, hP, hC, hM, hn1, hn2, hn3, hsb, (fun h_ => (mp_of hsp) _ h_ rfl), (fun h_ => (mp_of hsc) _ h_ rfl), hok⟩ : WldO _ b pm cm nodes id now ts cs))) ?_
  intro w_12 K_13
  replace hB := hB.ext K_13
  replace hP := hP.ext K_13
  replace hC := hC.ext K_13
  replace hM := hM.ext K_13
  replace hb_4 := hb_4.ext K_13
  replace K0 := K0.ext K_13
  refine RL.gval (wantedF rfl rfl rfl rfl) (fun hg => (x_not (gvr hg))) ?_
  refine RL.val (x_or rfl rfl rfl) ?_
  refine RL.val (x_moveB rfl) ?_
  refine RL.gval (wantedF rfl rfl rfl rfl) (fun hg => (x_moveI rfl)) ?_
  refine RL.gval (wantedF rfl rfl rfl rfl) (fun hg => (x_moveI rfl)) ?_
  refine RL.gval (wantedF rfl rfl rfl rfl) (fun hg => (x_eqI (gvr hg) (gvr hg))) ?_
  refine RL.val (x_or rfl rfl rfl) ?_
  refine RL.nil ?_
  refine Run.cond rfl (fun hc27 => ?_) (fun hc27 => ?_)
  · try simp only [br] at hc27
    refine Run.seq ?_
    refine Run.region ?_
    refine RL.val (x_build (cells := #[.int .i64 (0), .int .i64 (0)]) (by kernel_rfl)) ?_
    refine RL.val (x_mkIfaceI (v := .int .i64 (1)) Tryz.underlying24 rfl) ?_
    refine RL.st rfl <| St1.store (v := .agg #[.int .i64 (0), .int .i64 (0)]) ty92 rfl rfl rfl (by simp [Value.cells, Value.oneCell']) hb_4 (by simp) ?_
    intro w_14 hb_4_ K_15
    have hb_4' : Blk w_14 b_1 [.int .i64 (0), .int .i64 (0)] 92 := hb_4_
    clear hb_4_
    replace hB := hB.keep K_15 (by simp only [one]; omega)
    replace hP := hP.keepO K_15 (fun q_ hq_ eq_ => pr_7 (by simp only [one] at eq_; rw [← eq_]; exact hq_))
    replace hC := hC.keepO K_15 (fun q_ hq_ eq_ => pr_8 (by simp only [one] at eq_; rw [← eq_]; exact hq_))
    replace hM := hM.keepO K_15 (fun q_ hq_ eq_ => pr_9 (by simp only [one] at eq_; rw [← eq_]; exact hq_))
    replace K0 := K0.new K_15 (fun x hx => by simp only [one] at hx; omega)
    replace hb_4 := hb_4'
    clear hb_4'
    refine RL.val (x_assign (v := .iface 24 (.int .i64 (1))) rfl) ?_
    refine RL.nil ?_
    refine Run.retCT (x := .iface 24 (.int .i64 (1))) (cs := #[.int .i64 (0), .int .i64 (0)]) Tryz.func40 rfl ty92 rfl rfl hb_4.cl rfl ?_
    exact ⟨_, rfl, .inl ⟨two_no hc27, rfl, K0⟩⟩
  · try simp only [br] at hc27
    refine Run.skip ?_
    refine Run.seq ?_
    refine Run.region ?_
    refine RL.val (x_moveI rfl) ?_
    refine RL.val (x_moveI rfl) ?_
    refine RL.val (x_minI rfl rfl) ?_
    refine RL.val (x_moveI rfl) ?_
    refine RL.val (x_moveI rfl) ?_
    refine RL.val (x_maxI rfl rfl) ?_
    refine RL.val (x_build (cells := #[.int .i64 (min x y), .int .i64 (max x y)]) (by kernel_rfl)) ?_
    refine RL.st rfl <| St1.store (v := .agg #[.int .i64 (min x y), .int .i64 (max x y)]) ty92 rfl rfl rfl (by simp [Value.cells, Value.oneCell']) hb_4 (by simp) ?_
    intro w_16 hb_4_ K_17
    have hb_4' : Blk w_16 b_1 [.int .i64 (min x y), .int .i64 (max x y)] 92 := hb_4_
    clear hb_4_
    replace hB := hB.keep K_17 (by simp only [one]; omega)
    replace hP := hP.keepO K_17 (fun q_ hq_ eq_ => pr_7 (by simp only [one] at eq_; rw [← eq_]; exact hq_))
    replace hC := hC.keepO K_17 (fun q_ hq_ eq_ => pr_8 (by simp only [one] at eq_; rw [← eq_]; exact hq_))
    replace hM := hM.keepO K_17 (fun q_ hq_ eq_ => pr_9 (by simp only [one] at eq_; rw [← eq_]; exact hq_))
    replace K0 := K0.new K_17 (fun x hx => by simp only [one] at hx; omega)
    replace hb_4 := hb_4'
    clear hb_4'
    refine RL.val (x_assign (v := .nilIface) rfl) ?_
    refine RL.nil ?_
    refine Run.retCT (x := .nilIface) (cs := #[.int .i64 (min x y), .int .i64 (max x y)]) Tryz.func40 rfl ty92 rfl rfl hb_4.cl rfl ?_
    exact ⟨_, rfl, .inr ⟨two_yes hc27.1.1 hc27.1.2 hc27.2, rfl, K0⟩⟩

set_option maxRecDepth 100000 in
set_option maxHeartbeats 4000000 in
theorem put_ (b pm cm : Nat) (nodes id now : Int) (ts : List Pk) (cs : List LinkC) (v : MV) (s : Six) (w : World) (hD : WldO w b pm cm nodes id now ts cs) (hR : SixR w s v) (hv : VOk v) (hlt : ts.length < 512) (hid : id ≤ 1000000000) (hdb : ¬ rdS s v b) (hdp : ¬ rdS s v pm) (hdc : ¬ rdS s v cm) :
    Calls Tryz.prog 41 #[.pointer (some ⟨b, 0, none⟩), .agg #[.int .i64 (((mkC v s)).kind), .int .i64 (((mkC v s)).frm), .int .i64 (((mkC v s)).to), .int .i64 (((mkC v s)).req), .string (((mkC v s)).key), .slice (s.ea) (v.ent.length) (s.ec), .slice (s.ma) (v.mrk.length) (s.mc), .slice (s.ca) (v.cl.length) (s.cc), .int .i64 (((mkC v s)).owner), .int .i64 (((mkC v s)).part), .int .i64 (((mkC v s)).n), .int .i64 ((((mkC v s)).ring).parts), .int .i64 ((((mkC v s)).ring).copies), .int .i64 ((((mkC v s)).ring).spots), .slice (s.ba) (v.mem.length) (s.bc), .slice (s.pa) (v.pe.length) (s.pc), .slice (s.sa) (v.su.length) (s.sc)]] w (Ret (fun r w' => ∃ s', r = .tuple #[] ∧ WldO w' b pm cm nodes (id + 1) now (ts ++ [⟨id + 1, v, s'⟩]) cs ∧ (∀ q, ownS s' q → w.heap.size ≤ q) ∧ Keeps (wF b pm cm) w w')) := by
  obtain ⟨hB, hP, hC, hM, hn1, hn2, hn3, hsb, hsp, hsc, hok⟩ := hD
  obtain ⟨hno1, hno2⟩ := hok.nodes
  obtain ⟨hnw1, hnw2⟩ := hok.now
  have hid0 := hok.id0
  have hl5 := hok.len
  rw [p_len] at hl5
  have hpl := pents_len ts
  refine calls_run (n := 21) Tryz.func41 rfl rfl rfl ?_
  refine Run.seq ?_
  refine Run.region ?_
  refine RL.st rfl <| St1.box (v := .agg #[.int .i64 (((mkC v s)).kind), .int .i64 (((mkC v s)).frm), .int .i64 (((mkC v s)).to), .int .i64 (((mkC v s)).req), .string (((mkC v s)).key), .slice (s.ea) (v.ent.length) (s.ec), .slice (s.ma) (v.mrk.length) (s.mc), .slice (s.ca) (v.cl.length) (s.cc), .int .i64 (((mkC v s)).owner), .int .i64 (((mkC v s)).part), .int .i64 (((mkC v s)).n), .int .i64 ((((mkC v s)).ring).parts), .int .i64 ((((mkC v s)).ring).copies), .int .i64 ((((mkC v s)).ring).spots), .slice (s.ba) (v.mem.length) (s.bc), .slice (s.pa) (v.pe.length) (s.pc), .slice (s.sa) (v.su.length) (s.sc)]) rfl ?_
  intro b_1 w_2 hl_5 hb_4 K_3
  replace hb_4 : Blk w_2 b_1 [.int .i64 (((mkC v s)).kind), .int .i64 (((mkC v s)).frm), .int .i64 (((mkC v s)).to), .int .i64 (((mkC v s)).req), .string (((mkC v s)).key), .slice (s.ea) (v.ent.length) (s.ec), .slice (s.ma) (v.mrk.length) (s.mc), .slice (s.ca) (v.cl.length) (s.cc), .int .i64 (((mkC v s)).owner), .int .i64 (((mkC v s)).part), .int .i64 (((mkC v s)).n), .int .i64 ((((mkC v s)).ring).parts), .int .i64 ((((mkC v s)).ring).copies), .int .i64 ((((mkC v s)).ring).spots), .slice (s.ba) (v.mem.length) (s.bc), .slice (s.pa) (v.pe.length) (s.pc), .slice (s.sa) (v.su.length) (s.sc)] 57 := hb_4
  have ne_6 : b < b_1 := Nat.lt_of_lt_of_le hB.lt hl_5
  have pr_7 : ¬ one pm b_1 := fun h => absurd (hP.own_lt _ h) (by omega)
  have pr_8 : ¬ one cm b_1 := fun h => absurd (hC.own_lt _ h) (by omega)
  have pr_9 : ¬ mgsS ts b_1 := fun h => absurd (hM.own_lt _ h) (by omega)
  have pr_10 : ¬ rdS s v b_1 := fun h => absurd (hR.own_lt _ h) (by omega)
  have : w.heap.size ≤ b_1 := hl_5
  clear hl_5
  replace hB := hB.ext K_3
  replace hP := hP.ext K_3
  replace hC := hC.ext K_3
  replace hM := hM.ext K_3
  replace hR := hR.ext K_3
  have K0 := (K_3 : Ext w _).to (S := (wF b pm cm))
  refine RL.nil ?_
  refine Run.seq ?_
  refine Run.region ?_
  refine RL.val (x_moveP rfl) ?_
  refine RL.val (x_nilCheck rfl) ?_
  refine RL.val (x_fld (o' := 3) Tryz.underlying64 rfl ty3 rfl rfl rfl) ?_
  refine RL.val (x_ld (v := .int .i64 (id)) ty3 rfl rfl (hB.cl.field (i := 3) rfl)) ?_
  refine RL.val (x_add rfl rfl (by omega) (by omega)) ?_
  refine RL.val (x_nilCheck rfl) ?_
  refine RL.val (x_fld (o' := 3) Tryz.underlying64 rfl ty3 rfl rfl rfl) ?_
  refine RL.st rfl <| St1.store (v := .int .i64 (id + 1)) ty3 rfl rfl rfl (by simp [Value.cells, Value.oneCell']) hB (by simp) ?_
  intro w_11 hB_ K_12
  have hB' : Blk w_11 b [.int .i64 (nodes), .map (some pm), .map (some cm), .int .i64 (id + 1), .int .i64 (now)] 64 := hB_
  clear hB_
  replace hP := hP.keepO K_12 (fun q_ hq_ eq_ => hn1 (by simp only [one] at eq_; rw [← eq_]; exact hq_))
  replace hC := hC.keepO K_12 (fun q_ hq_ eq_ => hn2 (by simp only [one] at eq_; rw [← eq_]; exact hq_))
  replace hM := hM.keepO K_12 (fun q_ hq_ eq_ => hsb (by simp only [one] at eq_; rw [← eq_]; exact hq_))
  replace hR := hR.keepO K_12 (fun q_ hq_ eq_ => hdb (by simp only [one] at eq_; rw [← eq_]; exact hq_))
  replace hb_4 := hb_4.keep K_12 (by simp only [one]; omega)
  replace K0 := K0.trans K_12 (fun x _ hx => by simp only [one] at hx; subst hx; exact wf_b)
  replace hB := hB'
  clear hB'
  refine RL.nil ?_
  refine Run.drawT [10] (m := 11) (by kernel_rfl) rfl ?_
  intro w_13 K_14
  replace hB := hB.ext K_14
  replace hP := hP.ext K_14
  replace hC := hC.ext K_14
  replace hM := hM.ext K_14
  replace hR := hR.ext K_14
  replace hb_4 := hb_4.ext K_14
  replace K0 := K0.ext K_14
  refine ⟨fun w' => Blk w' b [.int .i64 (nodes), .map (some pm), .map (some cm), .int .i64 (id + 1), .int .i64 (now)] 64 ∧ Blk w' b_1 [.int .i64 (((mkC v s)).kind), .int .i64 (((mkC v s)).frm), .int .i64 (((mkC v s)).to), .int .i64 (((mkC v s)).req), .string (((mkC v s)).key), .slice (s.ea) (v.ent.length) (s.ec), .slice (s.ma) (v.mrk.length) (s.mc), .slice (s.ca) (v.cl.length) (s.cc), .int .i64 (((mkC v s)).owner), .int .i64 (((mkC v s)).part), .int .i64 (((mkC v s)).n), .int .i64 ((((mkC v s)).ring).parts), .int .i64 ((((mkC v s)).ring).copies), .int .i64 ((((mkC v s)).ring).spots), .slice (s.ba) (v.mem.length) (s.bc), .slice (s.pa) (v.pe.length) (s.pc), .slice (s.sa) (v.su.length) (s.sc)] 57 ∧ True, ?_⟩
  refine RT.takeP (v := .pointer (some ⟨b, 0, none⟩)) 0 rfl (by kernel_rfl) (.inr ⟨hB, hb_4, trivial⟩) (fun _ => (x_moveP rfl)) ?_
  refine RT.takeP (v := .pointer (some ⟨b, 0, none⟩)) 1 rfl (by kernel_rfl) (.inr ⟨hB, hb_4, trivial⟩) (fun _ => (x_nilCheck rfl)) ?_
  refine RT.takeP (v := .pointer (some ⟨b, 1, none⟩)) 2 rfl (by kernel_rfl) (.inr ⟨hB, hb_4, trivial⟩) (fun _ => (x_fld (o' := 1) Tryz.underlying64 rfl ty61 rfl rfl rfl)) ?_
  refine RT.take (v := .map (some pm)) 3 rfl (by kernel_rfl) ⟨hB, hb_4, trivial⟩ (by rintro _ ⟨hB, hb_4, -⟩; exact (x_ld (v := .map (some pm)) ty61 rfl rfl (hB.cl.field (i := 1) rfl))) ?_
  refine RT.takeP (v := .pointer (some ⟨b, 0, none⟩)) 4 rfl (by kernel_rfl) (.inr ⟨hB, hb_4, trivial⟩) (fun _ => (x_moveP rfl)) ?_
  refine RT.takeP (v := .pointer (some ⟨b, 0, none⟩)) 5 rfl (by kernel_rfl) (.inr ⟨hB, hb_4, trivial⟩) (fun _ => (x_nilCheck rfl)) ?_
  refine RT.takeP (v := .pointer (some ⟨b, 3, none⟩)) 6 rfl (by kernel_rfl) (.inr ⟨hB, hb_4, trivial⟩) (fun _ => (x_fld (o' := 3) Tryz.underlying64 rfl ty3 rfl rfl rfl)) ?_
  refine RT.take (v := .int .i64 (id + 1)) 7 rfl (by kernel_rfl) ⟨hB, hb_4, trivial⟩ (by rintro _ ⟨hB, hb_4, -⟩; exact (x_ld (v := .int .i64 (id + 1)) ty3 rfl rfl (hB.cl.field (i := 3) rfl))) ?_
  refine RT.take (v := .agg #[.int .i64 (((mkC v s)).kind), .int .i64 (((mkC v s)).frm), .int .i64 (((mkC v s)).to), .int .i64 (((mkC v s)).req), .string (((mkC v s)).key), .slice (s.ea) (v.ent.length) (s.ec), .slice (s.ma) (v.mrk.length) (s.mc), .slice (s.ca) (v.cl.length) (s.cc), .int .i64 (((mkC v s)).owner), .int .i64 (((mkC v s)).part), .int .i64 (((mkC v s)).n), .int .i64 ((((mkC v s)).ring).parts), .int .i64 ((((mkC v s)).ring).copies), .int .i64 ((((mkC v s)).ring).spots), .slice (s.ba) (v.mem.length) (s.bc), .slice (s.pa) (v.pe.length) (s.pc), .slice (s.sa) (v.su.length) (s.sc)]) 8 rfl (by kernel_rfl) ⟨hB, hb_4, trivial⟩ (by rintro _ ⟨hB, hb_4, -⟩; exact (x_lds (cs := #[.int .i64 (((mkC v s)).kind), .int .i64 (((mkC v s)).frm), .int .i64 (((mkC v s)).to), .int .i64 (((mkC v s)).req), .string (((mkC v s)).key), .slice (s.ea) (v.ent.length) (s.ec), .slice (s.ma) (v.mrk.length) (s.mc), .slice (s.ca) (v.cl.length) (s.cc), .int .i64 (((mkC v s)).owner), .int .i64 (((mkC v s)).part), .int .i64 (((mkC v s)).n), .int .i64 ((((mkC v s)).ring).parts), .int .i64 ((((mkC v s)).ring).copies), .int .i64 ((((mkC v s)).ring).spots), .slice (s.ba) (v.mem.length) (s.bc), .slice (s.pa) (v.pe.length) (s.pc), .slice (s.sa) (v.su.length) (s.sc)]) ty57 rfl rfl (hb_4.cl.drop 0 17))) ?_
  refine RT.st 9 rfl (by kernel_rfl) rfl <| St1.call (vals := [.agg #[.int .i64 (((mkC v s)).kind), .int .i64 (((mkC v s)).frm), .int .i64 (((mkC v s)).to), .int .i64 (((mkC v s)).req), .string (((mkC v s)).key), .slice (s.ea) (v.ent.length) (s.ec), .slice (s.ma) (v.mrk.length) (s.mc), .slice (s.ca) (v.cl.length) (s.cc), .int .i64 (((mkC v s)).owner), .int .i64 (((mkC v s)).part), .int .i64 (((mkC v s)).n), .int .i64 ((((mkC v s)).ring).parts), .int .i64 ((((mkC v s)).ring).copies), .int .i64 ((((mkC v s)).ring).spots), .slice (s.ba) (v.mem.length) (s.bc), .slice (s.pa) (v.pe.length) (s.pc), .slice (s.sa) (v.su.length) (s.sc)]]) en36 rfl (copied_ v s _ hR (by assumption)) ?_
  rintro _ w_16 ⟨s_15, rfl, hO_17, hA_18, hg_19, K_20⟩
  have pr_21 : ¬ ownS s_15 b := notNew hg_19 hB.lt
  have pr_22 : ∀ q_, ownS s_15 q_ → ¬ one pm q_ := apartNew hg_19 hP.own_lt
  have pr_23 : ∀ q_, ownS s_15 q_ → ¬ one cm q_ := apartNew hg_19 hC.own_lt
  have pr_24 : ∀ q_, ownS s_15 q_ → ¬ mgsS ts q_ := apartNew hg_19 hM.own_lt
  have pr_25 : ∀ q_, ownS s_15 q_ → ¬ rdS s v q_ := apartNew hg_19 hR.own_lt
  have pr_26 : ¬ ownS s_15 b_1 := notNew hg_19 hb_4.lt
  have pg_27 : ∀ q_, ownS s_15 q_ → q_ < w.heap.size → (wF b pm cm) q_ := fun q_ h hlt => absurd (Nat.le_trans K0.size (hg_19 q_ h)) (by omega)
  have pw_28 : ∀ q_, ownS s_15 q_ → w.heap.size ≤ q_ := fun q_ h => Nat.le_trans K0.size (hg_19 q_ h)
  clear hg_19
  replace hB := hB.ext K_20
  replace hP := hP.ext K_20
  replace hC := hC.ext K_20
  replace hM := hM.ext K_20
  replace hR := hR.ext K_20
  replace hb_4 := hb_4.ext K_20
  replace K0 := K0.ext K_20
  refine ⟨.inr ⟨hB, hb_4, trivial⟩, ?_⟩
  refine RT.st 10 rfl (by kernel_rfl) rfl <| St1.mapUpdate (v := .agg #[.int .i64 (((mkC v s_15)).kind), .int .i64 (((mkC v s_15)).frm), .int .i64 (((mkC v s_15)).to), .int .i64 (((mkC v s_15)).req), .string (((mkC v s_15)).key), .slice (s_15.ea) (v.ent.length) (s_15.ec), .slice (s_15.ma) (v.mrk.length) (s_15.mc), .slice (s_15.ca) (v.cl.length) (s_15.cc), .int .i64 (((mkC v s_15)).owner), .int .i64 (((mkC v s_15)).part), .int .i64 (((mkC v s_15)).n), .int .i64 ((((mkC v s_15)).ring).parts), .int .i64 ((((mkC v s_15)).ring).copies), .int .i64 ((((mkC v s_15)).ring).spots), .slice (s_15.ba) (v.mem.length) (s_15.bc), .slice (s_15.pa) (v.pe.length) (s_15.pc), .slice (s_15.sa) (v.su.length) (s_15.sc)]) Tryz.underlying61 Tryz.underlying3 rfl rfl rfl rfl hP ?_
  intro w_29 hM_30 K_31
  replace hM_30 : MapAt w_29 pm (pents (ts ++ [(⟨id + 1, v, s_15⟩ : Pk)])) := (pents_put (ids_lt hok) ▸ hM_30)
  replace hB := hB.keep K_31 hn1
  replace hC := hC.keepO K_31 (cp_of hn3)
  replace hM := hM.keepO K_31 (mp_of hsp)
  replace hR := hR.keepO K_31 (rp_of hdp)
  replace hb_4 := hb_4.keep K_31 pr_7
  replace hO_17 := hO_17.keepO K_31 pr_22
  replace K0 := K0.trans K_31 (fun x hlt hx => (fun q_ h_ _ => wf_p q_ h_) x hx hlt)
  replace hP := hM_30
  clear hM_30
  refine ⟨.inl (by kernel_rfl), ?_⟩
  refine RT.done (by kernel_rfl) ?_
  refine Run.fin0 Tryz.func41 rfl ?_
  exact ⟨_, rfl, s_15, rfl, ⟨hB, hP, hC, MgsAt.snoc hM ⟨hO_17, hA_18, hv⟩ (fun q_ h1 h2 => pr_24 q_ h2 h1), hn1, hn2, hn3, (fun h_ => (mgs_snoc.1 h_).elim hsb pr_21), (fun h_ => (mgs_snoc.1 h_).elim hsp (fun h2_ => pr_22 _ h2_ rfl)), (fun h_ => (mgs_snoc.1 h_).elim hsc (fun h2_ => pr_23 _ h2_ rfl)), hok.put (by omega)⟩, fun q hq => pw_28 q hq, K0⟩

end Go.Proofs.YtdlaoncjiolckaaGreat
