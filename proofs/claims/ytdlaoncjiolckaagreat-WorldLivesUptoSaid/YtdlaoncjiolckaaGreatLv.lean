/-
  Layer 22: samePackets of what is read; links; does.
-/
import Derived.Test.YtdlaoncjiolckaaGreatRows
import Derived.Test.YtdlaoncjiolckaaGreatFg
namespace Go.Proofs.YtdlaoncjiolckaaGreat
attribute [local irreducible] St1 RL RA RT RT1 Run

/-- packets whose messages are read -/
def rdsS (ks : List Pk) : Nat → Prop := fun q => ∃ p ∈ ks, rdS p.s p.v q
structure MgR (w : World) (ks : List Pk) : Prop where
  all : ∀ p ∈ ks, SixR w p.s p.v ∧ VOk p.v
def dS (F G : Nat → Prop) : Nat → Prop := fun q => F q ∨ G q
section
variable {RP : MV → Six → Prop} {w w' W0 : World} {S F G : Nat → Prop} {ks : List Pk} {v : MV} {s : Six} {r : Nat} {nodes id now i : Int} {pv : List (Int × MV)} {cs : List LinkC}
theorem MgR.own_lt (h : MgR w ks) : ∀ q, rdsS ks q → q < w.heap.size := fun q ⟨p, hp, hq⟩ => (h.all p hp).1.own_lt q hq
theorem MgR.keepO (h : MgR w ks) (k : Keeps S w w') (hn : ∀ q, rdsS ks q → ¬ S q) : MgR w' ks := ⟨fun p hp => ⟨(h.all p hp).1.keepO k (fun q hq => hn q ⟨p, hp, hq⟩), (h.all p hp).2⟩⟩
theorem MgR.ext (h : MgR w ks) (k : Ext w w') : MgR w' ks := ⟨fun p hp => ⟨(h.all p hp).1.ext k, (h.all p hp).2⟩⟩
theorem MgsAt.rd (h : MgsAt w ks) : MgR w ks := ⟨fun p hp => ⟨(h.all p hp).own.r, (h.all p hp).ok⟩⟩
theorem rp_rd (hRP : ∀ v s, RP v s → SixR W0 s v ∧ VOk v) (h : ∀ p ∈ ks, RP p.v p.s) (hx : Ext W0 w) : MgR w ks := ⟨fun p hp => ⟨(hRP _ _ (h p hp)).1.ext hx, (hRP _ _ (h p hp)).2⟩⟩
theorem rp_six (hRP : ∀ v s, RP v s → SixR W0 s v ∧ VOk v) (h : RP v s ∨ (v = nilV ∧ s = nilS)) (hx : Ext W0 w) : SixR w s v := by
  rcases h with h | ⟨rfl, rfl⟩
  · exact (hRP _ _ h).1.ext hx
  · exact nil_R
theorem ds_case : ∀ q, dS F G q → F q ∨ G q := fun _ h => h
theorem sp_one {a : Option Addr} {j : Int} : ∀ q, spS a [(⟨j, v, s⟩ : Pk)] q → own a q ∨ ownS s q := fun q h => h.elim .inl (fun h => .inr (mgs_one q h))
theorem sp_case {a : Option Addr} : ∀ q, spS a ks q → own a q ∨ mgsS ks q := fun _ h => h
theorem twiceN_le (id : Int) (pv : List (Int × MV)) (a : Int) : twiceN id pv a ≤ id + 1 := by unfold twiceN; split <;> omega
theorem cutL_len (x y : Int) : (cutL nodes cs x y).length ≤ cs.length + 1 := by
  unfold cutL
  split
  · rw [List.length_append]; exact Nat.le_refl _
  · omega
theorem mendL_len (x y : Int) : (mendL nodes cs x y).length ≤ cs.length + 1 := by
  unfold mendL
  split
  · have := (List.erase_sublist (a := lk x y) (l := cs)).length_le; omega
  · omega
theorem RefAt.view (h : RefAt RP w r F nodes id now pv cs) : ∃ (aL : Option Addr) (cL : Nat) (aC : Option Addr) (lC cC : Nat) (ks : List Pk), Blk w r [.int .i64 nodes, .slice aL (ks.map Pk.k).length cL, .int .i64 id, .slice aC lC cC, .int .i64 now] 39 ∧ F r ∧ SlOf w aL (ks.map Pk.k) ∧ ks.map Pk.p = pv ∧ ∀ p ∈ ks, RP p.v p.s := by
  obtain ⟨aL, cL, aC, cC, ks, cu, rfl, rfl, rfl, hRP, hD⟩ := h
  exact ⟨aL, cL, aC, _, cC, ks, hD.blk, .inl rfl, hD.l.sl, rfl, fun p hp => (hRP p hp).1⟩
end

theorem ty31 : Ty Tryz.prog 31 1 24 (.slice (none) (0) (0)) false := ty_of (by kernel_rfl) (by kernel_rfl)
theorem en12 : Enters Tryz.prog 12 := enters_of Tryz.func12 rfl (by kernel_rfl)
theorem en16 : Enters Tryz.prog 16 := enters_of Tryz.func16 rfl (by kernel_rfl)
theorem en17 : Enters Tryz.prog 17 := enters_of Tryz.func17 rfl (by kernel_rfl)
theorem en18 : Enters Tryz.prog 18 := enters_of Tryz.func18 rfl (by kernel_rfl)
theorem en20 : Enters Tryz.prog 20 := enters_of Tryz.func20 rfl (by kernel_rfl)
theorem en21 : Enters Tryz.prog 21 := enters_of Tryz.func21 rfl (by kernel_rfl)
theorem en22 : Enters Tryz.prog 22 := enters_of Tryz.func22 rfl (by kernel_rfl)
theorem en23 : Enters Tryz.prog 23 := enters_of Tryz.func23 rfl (by kernel_rfl)
theorem en24 : Enters Tryz.prog 24 := enters_of Tryz.func24 rfl (by kernel_rfl)
theorem en25 : Enters Tryz.prog 25 := enters_of Tryz.func25 rfl (by kernel_rfl)
theorem en26 : Enters Tryz.prog 26 := enters_of Tryz.func26 rfl (by kernel_rfl)
theorem en27 : Enters Tryz.prog 27 := enters_of Tryz.func27 rfl (by kernel_rfl)
theorem en28 : Enters Tryz.prog 28 := enters_of Tryz.func28 rfl (by kernel_rfl)
theorem en29 : Enters Tryz.prog 29 := enters_of Tryz.func29 rfl (by kernel_rfl)
theorem en30 : Enters Tryz.prog 30 := enters_of Tryz.func30 rfl (by kernel_rfl)

set_option maxRecDepth 100000 in
set_option maxHeartbeats 4000000 in
theorem equalFuncR (a : Option Addr) (ks : List Pk) (c : Nat) (d : Option Addr) (us : List Pk) (e : Nat) (w : World) (hs : SlOf w a (ks.map Pk.k)) (ht : SlOf w d (us.map Pk.k)) (hK : MgR w ks) (hU : MgR w us) (hl : ks.length ≤ 1048576) :
    Calls Tryz.prog 37 #[.slice (a) ((ks.map Pk.k).length) (c), .slice (d) ((us.map Pk.k).length) (e), .func (.func 38) #[] #[]] w (Ret (fun r w' => r = .bool (decide (ks.map Pk.p = us.map Pk.p)) ∧ Ext w w')) := by
  have hk1 : (ks.map Pk.k).length = ks.length := List.length_map ..
  have hu1 : (us.map Pk.k).length = us.length := List.length_map ..
  have hk2 : (ks.map Pk.p).length = ks.length := List.length_map ..
  have hu2 : (us.map Pk.p).length = us.length := List.length_map ..
  refine calls_run (n := 32) Tryz.func37 rfl rfl rfl ?_
  refine Run.seq ?_
  refine Run.region ?_
  refine RL.val (x_assignB rfl) ?_
  refine RL.nil ?_
  refine Run.seq ?_
  refine Run.seq ?_
  refine Run.region ?_
  refine RL.val (x_moveSl rfl) ?_
  refine RL.val (x_lenSl Tryz.underlying36 rfl) ?_
  refine RL.val (x_moveSl rfl) ?_
  refine RL.val (x_lenSl Tryz.underlying36 rfl) ?_
  refine RL.val (x_neI rfl rfl) ?_
  refine RL.nil ?_
  refine Run.cond rfl (fun hc14 => ?_) (fun hc14 => ?_)
  · try simp only [br] at hc14
    refine Run.seq ?_
    refine Run.region ?_
    refine RL.val (x_assignB rfl) ?_
    refine RL.nil ?_
    refine Run.ret1 (v := .bool (false)) Tryz.func37 rfl rfl ?_
    exact ⟨_, rfl, by rw [decide_eq_false (fun h => by have h2 := congrArg List.length h; omega)], (Keeps.refl _ w)⟩
  · try simp only [br] at hc14
    have hlen : ks.length = us.length := by omega
    refine Run.skip ?_
    refine Run.seq ?_
    refine Run.seq ?_
    refine Run.region ?_
    refine RL.val (x_moveSl rfl) ?_
    refine RL.val (x_lenSl Tryz.underlying36 rfl) ?_
    refine RL.val (x_moveI rfl) ?_
    refine RL.nil ?_
    refine Run.block ?_
    refine Run.loop (ι := Nat) (fun i ρ' w' => Holds ρ' [(1, .slice (d) ((us.map Pk.k).length) (e)), (2, .func (.func 38) #[] #[]), (15, .slice (a) ((ks.map Pk.k).length) (c)), (16, .int .i64 ((((ks.map Pk.k).length : Nat) : Int))), (17, .int .i64 (((i : Nat) : Int)))] ∧ Ext w w' ∧ (MgR w' ks) ∧ (MgR w' us) ∧ (i ≤ ks.length) ∧ ((ks.map Pk.p).take i = (us.map Pk.p).take i)) (fun i => ks.length - i) 0 ?_ ?_
    · refine ⟨⟨rfl, rfl, rfl, rfl, rfl, trivial⟩, (Keeps.refl _ w), hK, hU, ?_, ?_⟩
      · omega
      · rfl
    clear hK hU
    rintro i ρ_3 w_1 ⟨hH_2, K0, hK, hU, hi, hsm⟩ ih1
    obtain ⟨ρ₀, rfl⟩ := hH_2.ex
    clear hH_2
    refine Run.seq ?_
    refine Run.region ?_
    refine RL.val (x_ltI rfl rfl) ?_
    refine RL.nil ?_
    refine Run.seq ?_
    refine Run.cond rfl (fun hc18 => ?_) (fun hc18 => ?_)
    · try simp only [br] at hc18
      refine Run.skip ?_
      refine Run.seq ?_
      refine Run.block ?_
      refine Run.seq ?_
      obtain ⟨x0, hx0⟩ : ∃ x, (ks.map Pk.k)[i]? = some x := ⟨_, List.getElem?_eq_getElem (by omega)⟩
      obtain ⟨p, hp, hxe_, hpp⟩ := pk_get hx0
      subst hxe_
      refine Run.region ?_
      refine RL.val (x_moveI rfl) ?_
      obtain ⟨b_4, o_5, x_8, hx_9, ha_6, hc_7⟩ := hs.el (i := i) (by first | omega | (simp only [List.length_set]; omega))
      have hc_7_lt := hc_7.lt
      replace hc_7 := hc_7.ext K0
      obtain rfl : (kC p.id p.v p.s) = x_8 := Option.some.inj (hx0.symm.trans hx_9)
      refine RL.val (x_idxN Tryz.underlying36 ty59 rfl rfl ha_6 (by first | omega | (simp only [List.length_set]; omega))) ?_
      refine RL.val (x_ldV (v := .agg #[.int .i64 (((kC p.id p.v p.s)).id), .int .i64 ((((kC p.id p.v p.s)).msg).kind), .int .i64 ((((kC p.id p.v p.s)).msg).frm), .int .i64 ((((kC p.id p.v p.s)).msg).to), .int .i64 ((((kC p.id p.v p.s)).msg).req), .string ((((kC p.id p.v p.s)).msg).key), .slice (p.s.ea) (p.v.ent.length) (p.s.ec), .slice (p.s.ma) (p.v.mrk.length) (p.s.mc), .slice (p.s.ca) (p.v.cl.length) (p.s.cc), .int .i64 ((((kC p.id p.v p.s)).msg).owner), .int .i64 ((((kC p.id p.v p.s)).msg).part), .int .i64 ((((kC p.id p.v p.s)).msg).n), .int .i64 (((((kC p.id p.v p.s)).msg).ring).parts), .int .i64 (((((kC p.id p.v p.s)).msg).ring).copies), .int .i64 (((((kC p.id p.v p.s)).msg).ring).spots), .slice (p.s.ba) (p.v.mem.length) (p.s.bc), .slice (p.s.pa) (p.v.pe.length) (p.s.pc), .slice (p.s.sa) (p.v.su.length) (p.s.sc)]) (y := (kC p.id p.v p.s)) ty59 rfl hc_7 rfl) ?_
      refine RL.st rfl <| St1.alloc ty59 ?_
      intro b_10 w_11 hl_14 hb_13 K_12
      replace hb_13 : Blk w_11 b_10 [.int .i64 (0), .int .i64 (0), .int .i64 (0), .int .i64 (0), .int .i64 (0), .string (⟨#[]⟩), .slice (none) (0) (0), .slice (none) (0) (0), .slice (none) (0) (0), .int .i64 (0), .int .i64 (0), .int .i64 (0), .int .i64 (0), .int .i64 (0), .int .i64 (0), .slice (none) (0) (0), .slice (none) (0) (0), .slice (none) (0) (0)] 59 := hb_13
      have ne_15 : b_4 < b_10 := Nat.lt_of_lt_of_le hc_7.lt hl_14
      have pr_16 : ¬ rdsS ks b_10 := fun h => absurd (hK.own_lt _ h) (by omega)
      have pr_17 : ¬ rdsS us b_10 := fun h => absurd (hU.own_lt _ h) (by omega)
      have : w.heap.size ≤ b_10 := Nat.le_trans K0.size hl_14
      clear hl_14
      replace hK := hK.ext K_12
      replace hU := hU.ext K_12
      replace hc_7 := hc_7.ext K_12
      replace K0 := K0.ext K_12
      refine RL.val (x_assignI rfl) ?_
      refine RL.st rfl <| St1.store (v := .agg #[.int .i64 (((kC p.id p.v p.s)).id), .int .i64 ((((kC p.id p.v p.s)).msg).kind), .int .i64 ((((kC p.id p.v p.s)).msg).frm), .int .i64 ((((kC p.id p.v p.s)).msg).to), .int .i64 ((((kC p.id p.v p.s)).msg).req), .string ((((kC p.id p.v p.s)).msg).key), .slice (p.s.ea) (p.v.ent.length) (p.s.ec), .slice (p.s.ma) (p.v.mrk.length) (p.s.mc), .slice (p.s.ca) (p.v.cl.length) (p.s.cc), .int .i64 ((((kC p.id p.v p.s)).msg).owner), .int .i64 ((((kC p.id p.v p.s)).msg).part), .int .i64 ((((kC p.id p.v p.s)).msg).n), .int .i64 (((((kC p.id p.v p.s)).msg).ring).parts), .int .i64 (((((kC p.id p.v p.s)).msg).ring).copies), .int .i64 (((((kC p.id p.v p.s)).msg).ring).spots), .slice (p.s.ba) (p.v.mem.length) (p.s.bc), .slice (p.s.pa) (p.v.pe.length) (p.s.pc), .slice (p.s.sa) (p.v.su.length) (p.s.sc)]) ty59 rfl rfl rfl (by simp [Value.cells, Value.oneCell']) hb_13 (by simp) ?_
      intro w_18 hb_13_ K_19
      have hb_13' : Blk w_18 b_10 [.int .i64 (((kC p.id p.v p.s)).id), .int .i64 ((((kC p.id p.v p.s)).msg).kind), .int .i64 ((((kC p.id p.v p.s)).msg).frm), .int .i64 ((((kC p.id p.v p.s)).msg).to), .int .i64 ((((kC p.id p.v p.s)).msg).req), .string ((((kC p.id p.v p.s)).msg).key), .slice (p.s.ea) (p.v.ent.length) (p.s.ec), .slice (p.s.ma) (p.v.mrk.length) (p.s.mc), .slice (p.s.ca) (p.v.cl.length) (p.s.cc), .int .i64 ((((kC p.id p.v p.s)).msg).owner), .int .i64 ((((kC p.id p.v p.s)).msg).part), .int .i64 ((((kC p.id p.v p.s)).msg).n), .int .i64 (((((kC p.id p.v p.s)).msg).ring).parts), .int .i64 (((((kC p.id p.v p.s)).msg).ring).copies), .int .i64 (((((kC p.id p.v p.s)).msg).ring).spots), .slice (p.s.ba) (p.v.mem.length) (p.s.bc), .slice (p.s.pa) (p.v.pe.length) (p.s.pc), .slice (p.s.sa) (p.v.su.length) (p.s.sc)] 59 := hb_13_
      clear hb_13_
      replace hK := hK.keepO K_19 (fun q_ hq_ eq_ => pr_16 (by simp only [one] at eq_; rw [← eq_]; exact hq_))
      replace hU := hU.keepO K_19 (fun q_ hq_ eq_ => pr_17 (by simp only [one] at eq_; rw [← eq_]; exact hq_))
      replace hc_7 := hc_7.keep K_19 (by simp only [one]; omega)
      replace K0 := K0.new K_19 (fun x hx => by simp only [one] at hx; omega)
      replace hb_13 := hb_13'
      clear hb_13'
      refine RL.nil ?_
      refine Run.seq ?_
      obtain ⟨y0, hy0⟩ : ∃ x, (us.map Pk.k)[i]? = some x := ⟨_, List.getElem?_eq_getElem (by omega)⟩
      obtain ⟨q, hq, hxe_, hqp⟩ := pk_get hy0
      subst hxe_
      refine Run.region ?_
      refine RL.val (x_moveSl rfl) ?_
      refine RL.val (x_moveI rfl) ?_
      obtain ⟨b_20, o_21, x_24, hx_25, ha_22, hc_23⟩ := ht.el (i := i) (by first | omega | (simp only [List.length_set]; omega))
      have hc_23_lt := hc_23.lt
      replace hc_23 := hc_23.ext K0
      obtain rfl : (kC q.id q.v q.s) = x_24 := Option.some.inj (hy0.symm.trans hx_25)
      refine RL.val (x_idxN Tryz.underlying36 ty59 rfl rfl ha_22 (by first | omega | (simp only [List.length_set]; omega))) ?_
      refine RL.val (x_ldV (v := .agg #[.int .i64 (((kC q.id q.v q.s)).id), .int .i64 ((((kC q.id q.v q.s)).msg).kind), .int .i64 ((((kC q.id q.v q.s)).msg).frm), .int .i64 ((((kC q.id q.v q.s)).msg).to), .int .i64 ((((kC q.id q.v q.s)).msg).req), .string ((((kC q.id q.v q.s)).msg).key), .slice (q.s.ea) (q.v.ent.length) (q.s.ec), .slice (q.s.ma) (q.v.mrk.length) (q.s.mc), .slice (q.s.ca) (q.v.cl.length) (q.s.cc), .int .i64 ((((kC q.id q.v q.s)).msg).owner), .int .i64 ((((kC q.id q.v q.s)).msg).part), .int .i64 ((((kC q.id q.v q.s)).msg).n), .int .i64 (((((kC q.id q.v q.s)).msg).ring).parts), .int .i64 (((((kC q.id q.v q.s)).msg).ring).copies), .int .i64 (((((kC q.id q.v q.s)).msg).ring).spots), .slice (q.s.ba) (q.v.mem.length) (q.s.bc), .slice (q.s.pa) (q.v.pe.length) (q.s.pc), .slice (q.s.sa) (q.v.su.length) (q.s.sc)]) (y := (kC q.id q.v q.s)) ty59 rfl hc_23 rfl) ?_
      refine RL.st rfl <| St1.alloc ty59 ?_
      intro b_26 w_27 hl_30 hb_29 K_28
      replace hb_29 : Blk w_27 b_26 [.int .i64 (0), .int .i64 (0), .int .i64 (0), .int .i64 (0), .int .i64 (0), .string (⟨#[]⟩), .slice (none) (0) (0), .slice (none) (0) (0), .slice (none) (0) (0), .int .i64 (0), .int .i64 (0), .int .i64 (0), .int .i64 (0), .int .i64 (0), .int .i64 (0), .slice (none) (0) (0), .slice (none) (0) (0), .slice (none) (0) (0)] 59 := hb_29
      have ne_31 : b_10 < b_26 := Nat.lt_of_lt_of_le hb_13.lt hl_30
      have ne_32 : b_20 < b_26 := Nat.lt_of_lt_of_le hc_23.lt hl_30
      have pr_33 : ¬ rdsS ks b_26 := fun h => absurd (hK.own_lt _ h) (by omega)
      have pr_34 : ¬ rdsS us b_26 := fun h => absurd (hU.own_lt _ h) (by omega)
      have : w.heap.size ≤ b_26 := Nat.le_trans K0.size hl_30
      clear hl_30
      replace hK := hK.ext K_28
      replace hU := hU.ext K_28
      replace hb_13 := hb_13.ext K_28
      replace hc_23 := hc_23.ext K_28
      replace K0 := K0.ext K_28
      refine RL.st rfl <| St1.store (v := .agg #[.int .i64 (((kC q.id q.v q.s)).id), .int .i64 ((((kC q.id q.v q.s)).msg).kind), .int .i64 ((((kC q.id q.v q.s)).msg).frm), .int .i64 ((((kC q.id q.v q.s)).msg).to), .int .i64 ((((kC q.id q.v q.s)).msg).req), .string ((((kC q.id q.v q.s)).msg).key), .slice (q.s.ea) (q.v.ent.length) (q.s.ec), .slice (q.s.ma) (q.v.mrk.length) (q.s.mc), .slice (q.s.ca) (q.v.cl.length) (q.s.cc), .int .i64 ((((kC q.id q.v q.s)).msg).owner), .int .i64 ((((kC q.id q.v q.s)).msg).part), .int .i64 ((((kC q.id q.v q.s)).msg).n), .int .i64 (((((kC q.id q.v q.s)).msg).ring).parts), .int .i64 (((((kC q.id q.v q.s)).msg).ring).copies), .int .i64 (((((kC q.id q.v q.s)).msg).ring).spots), .slice (q.s.ba) (q.v.mem.length) (q.s.bc), .slice (q.s.pa) (q.v.pe.length) (q.s.pc), .slice (q.s.sa) (q.v.su.length) (q.s.sc)]) ty59 rfl rfl rfl (by simp [Value.cells, Value.oneCell']) hb_29 (by simp) ?_
      intro w_35 hb_29_ K_36
      have hb_29' : Blk w_35 b_26 [.int .i64 (((kC q.id q.v q.s)).id), .int .i64 ((((kC q.id q.v q.s)).msg).kind), .int .i64 ((((kC q.id q.v q.s)).msg).frm), .int .i64 ((((kC q.id q.v q.s)).msg).to), .int .i64 ((((kC q.id q.v q.s)).msg).req), .string ((((kC q.id q.v q.s)).msg).key), .slice (q.s.ea) (q.v.ent.length) (q.s.ec), .slice (q.s.ma) (q.v.mrk.length) (q.s.mc), .slice (q.s.ca) (q.v.cl.length) (q.s.cc), .int .i64 ((((kC q.id q.v q.s)).msg).owner), .int .i64 ((((kC q.id q.v q.s)).msg).part), .int .i64 ((((kC q.id q.v q.s)).msg).n), .int .i64 (((((kC q.id q.v q.s)).msg).ring).parts), .int .i64 (((((kC q.id q.v q.s)).msg).ring).copies), .int .i64 (((((kC q.id q.v q.s)).msg).ring).spots), .slice (q.s.ba) (q.v.mem.length) (q.s.bc), .slice (q.s.pa) (q.v.pe.length) (q.s.pc), .slice (q.s.sa) (q.v.su.length) (q.s.sc)] 59 := hb_29_
      clear hb_29_
      replace hK := hK.keepO K_36 (fun q_ hq_ eq_ => pr_33 (by simp only [one] at eq_; rw [← eq_]; exact hq_))
      replace hU := hU.keepO K_36 (fun q_ hq_ eq_ => pr_34 (by simp only [one] at eq_; rw [← eq_]; exact hq_))
      replace hb_13 := hb_13.keep K_36 (by simp only [one]; omega)
      replace hc_23 := hc_23.keep K_36 (by simp only [one]; omega)
      replace K0 := K0.new K_36 (fun x hx => by simp only [one] at hx; omega)
      replace hb_29 := hb_29'
      clear hb_29'
      refine RL.nil ?_
      refine Run.seq ?_
      refine Run.region ?_
      refine RL.val (x_moveF rfl) ?_
      refine RL.val (x_lds (cs := #[.int .i64 (((kC p.id p.v p.s)).id), .int .i64 ((((kC p.id p.v p.s)).msg).kind), .int .i64 ((((kC p.id p.v p.s)).msg).frm), .int .i64 ((((kC p.id p.v p.s)).msg).to), .int .i64 ((((kC p.id p.v p.s)).msg).req), .string ((((kC p.id p.v p.s)).msg).key), .slice (p.s.ea) (p.v.ent.length) (p.s.ec), .slice (p.s.ma) (p.v.mrk.length) (p.s.mc), .slice (p.s.ca) (p.v.cl.length) (p.s.cc), .int .i64 ((((kC p.id p.v p.s)).msg).owner), .int .i64 ((((kC p.id p.v p.s)).msg).part), .int .i64 ((((kC p.id p.v p.s)).msg).n), .int .i64 (((((kC p.id p.v p.s)).msg).ring).parts), .int .i64 (((((kC p.id p.v p.s)).msg).ring).copies), .int .i64 (((((kC p.id p.v p.s)).msg).ring).spots), .slice (p.s.ba) (p.v.mem.length) (p.s.bc), .slice (p.s.pa) (p.v.pe.length) (p.s.pc), .slice (p.s.sa) (p.v.su.length) (p.s.sc)]) ty59 rfl rfl (hb_13.cl.drop 0 18)) ?_
      refine RL.val (x_lds (cs := #[.int .i64 (((kC q.id q.v q.s)).id), .int .i64 ((((kC q.id q.v q.s)).msg).kind), .int .i64 ((((kC q.id q.v q.s)).msg).frm), .int .i64 ((((kC q.id q.v q.s)).msg).to), .int .i64 ((((kC q.id q.v q.s)).msg).req), .string ((((kC q.id q.v q.s)).msg).key), .slice (q.s.ea) (q.v.ent.length) (q.s.ec), .slice (q.s.ma) (q.v.mrk.length) (q.s.mc), .slice (q.s.ca) (q.v.cl.length) (q.s.cc), .int .i64 ((((kC q.id q.v q.s)).msg).owner), .int .i64 ((((kC q.id q.v q.s)).msg).part), .int .i64 ((((kC q.id q.v q.s)).msg).n), .int .i64 (((((kC q.id q.v q.s)).msg).ring).parts), .int .i64 (((((kC q.id q.v q.s)).msg).ring).copies), .int .i64 (((((kC q.id q.v q.s)).msg).ring).spots), .slice (q.s.ba) (q.v.mem.length) (q.s.bc), .slice (q.s.pa) (q.v.pe.length) (q.s.pc), .slice (q.s.sa) (q.v.su.length) (q.s.sc)]) ty59 rfl rfl (hb_29.cl.drop 0 18)) ?_
      refine RL.st rfl <| St1.callV (vals := [.agg #[.int .i64 (((kC p.id p.v p.s)).id), .int .i64 ((((kC p.id p.v p.s)).msg).kind), .int .i64 ((((kC p.id p.v p.s)).msg).frm), .int .i64 ((((kC p.id p.v p.s)).msg).to), .int .i64 ((((kC p.id p.v p.s)).msg).req), .string ((((kC p.id p.v p.s)).msg).key), .slice (p.s.ea) (p.v.ent.length) (p.s.ec), .slice (p.s.ma) (p.v.mrk.length) (p.s.mc), .slice (p.s.ca) (p.v.cl.length) (p.s.cc), .int .i64 ((((kC p.id p.v p.s)).msg).owner), .int .i64 ((((kC p.id p.v p.s)).msg).part), .int .i64 ((((kC p.id p.v p.s)).msg).n), .int .i64 (((((kC p.id p.v p.s)).msg).ring).parts), .int .i64 (((((kC p.id p.v p.s)).msg).ring).copies), .int .i64 (((((kC p.id p.v p.s)).msg).ring).spots), .slice (p.s.ba) (p.v.mem.length) (p.s.bc), .slice (p.s.pa) (p.v.pe.length) (p.s.pc), .slice (p.s.sa) (p.v.su.length) (p.s.sc)], .agg #[.int .i64 (((kC q.id q.v q.s)).id), .int .i64 ((((kC q.id q.v q.s)).msg).kind), .int .i64 ((((kC q.id q.v q.s)).msg).frm), .int .i64 ((((kC q.id q.v q.s)).msg).to), .int .i64 ((((kC q.id q.v q.s)).msg).req), .string ((((kC q.id q.v q.s)).msg).key), .slice (q.s.ea) (q.v.ent.length) (q.s.ec), .slice (q.s.ma) (q.v.mrk.length) (q.s.mc), .slice (q.s.ca) (q.v.cl.length) (q.s.cc), .int .i64 ((((kC q.id q.v q.s)).msg).owner), .int .i64 ((((kC q.id q.v q.s)).msg).part), .int .i64 ((((kC q.id q.v q.s)).msg).n), .int .i64 (((((kC q.id q.v q.s)).msg).ring).parts), .int .i64 (((((kC q.id q.v q.s)).msg).ring).copies), .int .i64 (((((kC q.id q.v q.s)).msg).ring).spots), .slice (q.s.ba) (q.v.mem.length) (q.s.bc), .slice (q.s.pa) (q.v.pe.length) (q.s.pc), .slice (q.s.sa) (q.v.su.length) (q.s.sc)]]) en38 rfl rfl (samePkt_ p.id p.v p.s q.id q.v q.s _ (hK.all p (List.mem_of_getElem? hp)).1 (hU.all q (List.mem_of_getElem? hq)).1 (hK.all p (List.mem_of_getElem? hp)).2) ?_
      rintro _ w_37 ⟨rfl, K_38⟩
      replace hK := hK.ext K_38
      replace hU := hU.ext K_38
      replace hb_13 := hb_13.ext K_38
      replace hb_29 := hb_29.ext K_38
      replace K0 := K0.ext K_38
      refine RL.val (x_not rfl) ?_
      refine RL.nil ?_
      refine Run.cond rfl (fun hc30 => ?_) (fun hc30 => ?_)
      · try simp only [br] at hc30
        refine Run.seq ?_
        refine Run.region ?_
        refine RL.val (x_assignB rfl) ?_
        refine RL.nil ?_
        refine Run.ret1 (v := .bool (false)) Tryz.func37 rfl rfl ?_
        exact ⟨_, rfl, by rw [decide_eq_false (ne_take hpp hqp (by first | exact hc30 | simpa using hc30))], K0⟩
      · try simp only [br] at hc30
        refine Run.skip ?_
        refine Run.inBlock ?_
        refine Run.region ?_
        refine RL.val (litI (c := ((i + 1 : Nat) : Int)) (x_add rfl rfl (by omega) (by omega)) rfl) ?_
        refine RL.val (x_moveI rfl) ?_
        refine RL.nil ?_
        refine ih1 (i + 1) _ _ ?_ (by omega)
        refine ⟨⟨rfl, rfl, rfl, rfl, rfl, trivial⟩, K0, hK, hU, ?_, ?_⟩
        · omega
        · exact take_eq hsm hpp (by rw [show p.p = q.p by (first | exact hc30 | simpa using hc30)]; exact hqp)
    · try simp only [br] at hc18
      refine Run.exit rfl ?_
      refine Run.seq ?_
      refine Run.region ?_
      refine RL.val (x_assignB rfl) ?_
      refine RL.nil ?_
      refine Run.ret1 (v := .bool (true)) Tryz.func37 rfl rfl ?_
      exact ⟨_, rfl, by rw [decide_eq_true (all_eq hsm (by omega) (by omega))], K0⟩

set_option maxRecDepth 100000 in
set_option maxHeartbeats 4000000 in
theorem samePacketsR (a : Option Addr) (ks : List Pk) (c : Nat) (d : Option Addr) (us : List Pk) (e : Nat) (w : World) (hs : SlOf w a (ks.map Pk.k)) (ht : SlOf w d (us.map Pk.k)) (hK : MgR w ks) (hU : MgR w us) (hl : ks.length ≤ 1048576) (he : ks.map Pk.p = us.map Pk.p) :
    Calls Tryz.prog 11 #[.slice (a) ((ks.map Pk.k).length) (c), .slice (d) ((us.map Pk.k).length) (e)] w (Ret (fun r w' => r = .bool true ∧ Ext w w')) := by
  have hk1 : (ks.map Pk.k).length = ks.length := List.length_map ..
  have hu1 : (us.map Pk.k).length = us.length := List.length_map ..
  have hk2 : (ks.map Pk.p).length = ks.length := List.length_map ..
  have hu2 : (us.map Pk.p).length = us.length := List.length_map ..
  refine calls_run (n := 8) Tryz.func11 rfl rfl rfl ?_
  refine Run.seq ?_
  refine Run.region ?_
  refine RL.val (x_assignB rfl) ?_
  refine RL.nil ?_
  refine Run.seq ?_
  refine Run.region ?_
  refine RL.val (x_moveSl rfl) ?_
  refine RL.val (x_moveSl rfl) ?_
  refine RL.st rfl <| St1.call (vals := [.slice (a) ((ks.map Pk.k).length) (c), .slice (d) ((us.map Pk.k).length) (e), .func (.func 38) #[] #[]]) en37 rfl (equalFuncR _ ks _ _ us _ _ hs ht hK hU hl) ?_
  rintro _ w_1 ⟨rfl, K_2⟩
  replace hK := hK.ext K_2
  replace hU := hU.ext K_2
  have K0 := (K_2 : Ext w _)
  refine RL.val (x_assignB rfl) ?_
  refine RL.nil ?_
  refine Run.ret1 (v := .bool (decide (ks.map Pk.p = us.map Pk.p))) Tryz.func11 rfl rfl ?_
  exact ⟨_, rfl, by rw [decide_eq_true he], K0⟩

set_option maxRecDepth 100000 in
set_option maxHeartbeats 4000000 in
theorem links_ {RP : MV → Six → Prop} (b : Nat) (F : Nat → Prop) (r : Nat) (G : Nat → Prop) (nodes id now id2 now2 : Int) (pv pv2 : List (Int × MV)) (cs : List LinkC) (w : World) (hW : WldAt w b F nodes id now pv cs) (hR : RefAt RP w r G nodes id2 now2 pv2 cs) (hRW : ∀ q, G q → ¬ F q) :
    Calls Tryz.prog 9 #[.pointer (some ⟨b, 0, none⟩), .pointer (some ⟨r, 0, none⟩)] w (Ret (fun v w' => v = .bool true ∧ Ext w w')) := by
  refine calls_run (n := 24) Tryz.func9 rfl rfl rfl ?_
  refine Run.seq ?_
  refine Run.region ?_
  refine RL.val (x_assignB rfl) ?_
  refine RL.nil ?_
  refine Run.seq ?_
  refine Run.seq ?_
  refine Run.region ?_
  refine RL.val (x_assignI rfl) ?_
  refine RL.nil ?_
  refine Run.block ?_
  refine Run.loop (ι := Int) (fun x ρ' w' => Holds ρ' [(0, .pointer (some ⟨b, 0, none⟩)), (1, .pointer (some ⟨r, 0, none⟩)), (5, .int .i64 (x))] ∧ Ext w w' ∧ (WldAt w' b F nodes id now pv cs) ∧ (RefAt RP w' r G nodes id2 now2 pv2 cs) ∧ (-1 ≤ x ∧ x ≤ 9)) (fun x => (9 - x).toNat) (-1) ?_ ?_
  · refine ⟨⟨rfl, rfl, rfl, trivial⟩, (Keeps.refl _ w), hW, hR, ?_⟩
    · omega
  clear hW hR
  rintro x ρ_3 w_1 ⟨hH_2, K0, hW, hR, hx⟩ ih1
  obtain ⟨ρ₀, rfl⟩ := hH_2.ex
  clear hH_2
  refine Run.seq ?_
  refine Run.seq ?_
  refine Run.region ?_
  refine RL.val (x_moveI rfl) ?_
  refine RL.val (x_ltI rfl rfl) ?_
  refine RL.nil ?_
  refine Run.cond rfl (fun hc8 => ?_) (fun hc8 => ?_)
  · try simp only [br] at hc8
    refine Run.skip ?_
    refine Run.seq ?_
    refine Run.block ?_
    refine Run.seq ?_
    refine Run.region ?_
    refine RL.val (x_assignI rfl) ?_
    refine RL.nil ?_
    refine Run.block ?_
    refine Run.loop (ι := Int) (fun y ρ' w' => Holds ρ' [(0, .pointer (some ⟨b, 0, none⟩)), (1, .pointer (some ⟨r, 0, none⟩)), (5, .int .i64 (x)), (6, .int .i64 (y)), (7, .int .i64 (x)), (8, .bool (decide (x < 9)))] ∧ Ext w w' ∧ (WldAt w' b F nodes id now pv cs) ∧ (RefAt RP w' r G nodes id2 now2 pv2 cs) ∧ (-1 ≤ y ∧ y ≤ 9)) (fun y => (9 - y).toNat) (-1) ?_ ?_
    · refine ⟨⟨rfl, rfl, rfl, rfl, rfl, rfl, trivial⟩, K0, hW, hR, ?_⟩
      · omega
    clear hW hR
    clear K0
    rintro y ρ_6 w_4 ⟨hH_5, K0, hW, hR, hy⟩ ih2
    obtain ⟨ρ₀, rfl⟩ := hH_5.ex
    clear hH_5
    refine Run.seq ?_
    refine Run.seq ?_
    refine Run.region ?_
    refine RL.val (x_moveI rfl) ?_
    refine RL.val (x_ltI rfl rfl) ?_
    refine RL.nil ?_
    refine Run.cond rfl (fun hc12 => ?_) (fun hc12 => ?_)
    · try simp only [br] at hc12
      refine Run.skip ?_
      refine Run.seq ?_
      refine Run.block ?_
      refine Run.seq ?_
      refine Run.region ?_
      refine RL.val (x_moveP rfl) ?_
      refine RL.val (x_moveI rfl) ?_
      refine RL.val (x_moveI rfl) ?_
      refine RL.st rfl <| St1.call (vals := [.pointer (some ⟨b, 0, none⟩), .int .i64 (x), .int .i64 (y)]) en32 rfl (linkedD hW x y) ?_
      rintro _ w_7 ⟨rfl, K_8⟩
      replace hW := hW.ext K_8
      replace hR := hR.ext K_8
      replace K0 := K0.ext K_8
      refine RL.val (x_moveP rfl) ?_
      refine RL.val (x_moveI rfl) ?_
      refine RL.val (x_moveI rfl) ?_
      refine RL.st rfl <| St1.call (vals := [.pointer (some ⟨r, 0, none⟩), .int .i64 (x), .int .i64 (y)]) en33 rfl (linkedRD hR x y) ?_
      rintro _ w_9 ⟨rfl, K_10⟩
      replace hW := hW.ext K_10
      replace hR := hR.ext K_10
      replace K0 := K0.ext K_10
      refine RL.val (litF (x_neB Tryz.underlying4 rfl rfl) (by simp)) ?_
      refine RL.nil ?_
      refine Run.condF rfl ?_
      refine Run.skip ?_
      refine Run.inBlock ?_
      refine Run.region ?_
      refine RL.val (x_moveI rfl) ?_
      refine RL.val (x_add rfl rfl (by omega) (by omega)) ?_
      refine RL.val (x_assignI rfl) ?_
      refine RL.nil ?_
      refine ih2 (y + 1) _ _ ?_ (by omega)
      refine ⟨⟨rfl, rfl, rfl, rfl, rfl, rfl, trivial⟩, K0, hW, hR, ?_⟩
      · omega
    · try simp only [br] at hc12
      refine Run.exit rfl ?_
      refine Run.inBlock ?_
      refine Run.region ?_
      refine RL.val (x_moveI rfl) ?_
      refine RL.val (x_add rfl rfl (by omega) (by omega)) ?_
      refine RL.val (x_assignI rfl) ?_
      refine RL.nil ?_
      refine ih1 (x + 1) _ _ ?_ (by omega)
      refine ⟨⟨rfl, rfl, rfl, trivial⟩, K0, hW, hR, ?_⟩
      · omega
  · try simp only [br] at hc8
    refine Run.exit rfl ?_
    refine Run.seq ?_
    refine Run.region ?_
    refine RL.val (x_assignB rfl) ?_
    refine RL.nil ?_
    refine Run.ret1 (v := .bool (true)) Tryz.func9 rfl rfl ?_
    exact ⟨_, rfl, rfl, K0⟩

set_option maxRecDepth 100000 in
set_option maxHeartbeats 4000000 in
theorem does_ {RP : MV → Six → Prop} (b : Nat) (F : Nat → Prop) (r : Nat) (G : Nat → Prop) (nodes id now : Int) (pv : List (Int × MV)) (cs : List LinkC) (o : DoC) (ms : List Mg) (W0 w : World) (hW : WldAt w b F nodes id now pv cs) (hR : RefAt RP w r G nodes id now pv cs) (hRW : ∀ q, G q → ¬ F q) (hRP : ∀ v s, RP v s → SixR W0 s v ∧ VOk v) (hE : Ext W0 w) (hF0 : ∀ q, F q → W0.heap.size ≤ q) (hG0 : ∀ q, G q → W0.heap.size ≤ q) (hmn : o.msgs.len = (ms.map Mg.c).length) (hml0 : SlOf W0 o.msgs.a (ms.map Mg.c)) (hml : ms.length ≤ 1048576) (hms : ∀ m ∈ ms, RP m.v m.s) (hid : id ≤ 1000000) (hcs : cs.length ≤ 100000) :
    Calls Tryz.prog 7 #[.pointer (some ⟨b, 0, none⟩), .pointer (some ⟨r, 0, none⟩), .agg #[.int .i64 ((o).op), .slice ((o).msgs.a) ((o).msgs.len) ((o).msgs.cap), .int .i64 ((o).a), .int .i64 ((o).b)]] w (Ret (fun v w' => v = .bool true ∧ ∃ F' G' id' now' pv' cs', WldAt w' b F' nodes id' now' pv' cs' ∧ RefAt RP w' r G' nodes id' now' pv' cs' ∧ (∀ q, F' q → q < w.heap.size → dS F G q) ∧ (∀ q, G' q → q < w.heap.size → dS F G q) ∧ (∀ q, F' q → ¬ G' q) ∧ id' ≤ id + 513 ∧ cs'.length ≤ cs.length + 1 ∧ Keeps (dS F G) w w')) := by
  have hft : ∀ q, dS F G q → W0.heap.size ≤ q := fun q h => h.elim (hF0 q) (hG0 q)
  have hok0 := hW.ok
  have hmcl : (ms.map Mg.c).length = ms.length := List.length_map ..
  refine calls_run (n := 135) Tryz.func7 rfl rfl rfl ?_
  refine Run.seq ?_
  refine Run.region ?_
  refine RL.st rfl <| St1.box (v := .agg #[.int .i64 ((o).op), .slice ((o).msgs.a) ((o).msgs.len) ((o).msgs.cap), .int .i64 ((o).a), .int .i64 ((o).b)]) rfl ?_
  intro b_1 w_2 hl_5 hb_4 K_3
  replace hb_4 : Blk w_2 b_1 [.int .i64 ((o).op), .slice ((o).msgs.a) ((o).msgs.len) ((o).msgs.cap), .int .i64 ((o).a), .int .i64 ((o).b)] 33 := hb_4
  have pr_6 : ¬ F b_1 := fun h => absurd (hW.own_lt _ h) (by omega)
  have pr_7 : ¬ G b_1 := fun h => absurd (hR.own_lt _ h) (by omega)
  have : w.heap.size ≤ b_1 := hl_5
  clear hl_5
  replace hW := hW.ext K_3
  replace hR := hR.ext K_3
  have K0 := (K_3 : Ext w _).to (S := (dS F G))
  refine RL.val (x_assignB rfl) ?_
  refine RL.nil ?_
  refine Run.seq ?_
  refine Run.seq ?_
  refine Run.region ?_
  refine RL.val (x_fld (o' := 0) Tryz.underlying33 rfl ty3 rfl rfl rfl) ?_
  refine RL.val (x_ld (v := .int .i64 ((o).op)) ty3 rfl rfl (hb_4.cl.field (i := 0) rfl)) ?_
  refine RL.val (x_convI rfl ⟨_, Tryz.underlying3⟩ Tryz.underlying69) ?_
  refine RL.val (x_rem rfl rfl (by decide)) ?_
  refine RL.nil ?_
  refine Run.block ?_
  refine Run.seq ?_
  refine Run.seq ?_
  refine Run.region ?_
  refine RL.val (x_eqI rfl rfl) ?_
  refine RL.val (x_assignB rfl) ?_
  refine RL.nil ?_
  refine Run.cond rfl (fun hc18 => ?_) (fun hc18 => ?_)
  · try simp only [br] at hc18
    refine Run.skip ?_
    refine Run.cond rfl (fun hc18 => ?_) (fun hc18 => ?_)
    · try simp only [br] at hc18
      refine Run.seq ?_
      refine Run.region ?_
      refine RL.val (x_fld (o' := 1) Tryz.underlying33 rfl ty31 rfl rfl rfl) ?_
      refine RL.val (litSl (m' := (ms.map Mg.c).length) (x_ld (v := .slice ((o).msgs.a) ((o).msgs.len) ((o).msgs.cap)) ty31 rfl rfl (hb_4.cl.field (i := 1) rfl)) hmn) ?_
      refine RL.st rfl <| St1.call (vals := [.slice ((o).msgs.a) ((ms.map Mg.c).length) ((o).msgs.cap)]) en16 rfl (msgs_ _ ms _ _ (hml0.ext (hE.new K0 hft)) (fun m hm => ⟨(hRP _ _ (hms m hm)).1.ext (hE.new K0 hft), (hRP _ _ (hms m hm)).2⟩) hml) ?_
      rintro _ w_11 ⟨a_8, c_9, ks_10, rfl, ho_12, hQ_13, hkv_14, hg_15, hg_16, hap_17, K_18⟩
      have pr_19 : ∀ q_, own a_8 q_ → ¬ F q_ := apartNew hg_15 hW.own_lt
      have pr_20 : ∀ q_, own a_8 q_ → ¬ G q_ := apartNew hg_15 hR.own_lt
      have pr_21 : ¬ own a_8 b_1 := notNew hg_15 hb_4.lt
      have pg_22 : ∀ q_, own a_8 q_ → q_ < w.heap.size → (dS F G) q_ := fun q_ h hlt => absurd (Nat.le_trans K0.size (hg_15 q_ h)) (by omega)
      have pw_23 : ∀ q_, own a_8 q_ → w.heap.size ≤ q_ := fun q_ h => Nat.le_trans K0.size (hg_15 q_ h)
      have pr_24 : ∀ q_, mgsS ks_10 q_ → ¬ F q_ := apartNew hg_16 hW.own_lt
      have pr_25 : ∀ q_, mgsS ks_10 q_ → ¬ G q_ := apartNew hg_16 hR.own_lt
      have pr_26 : ¬ mgsS ks_10 b_1 := notNew hg_16 hb_4.lt
      have pg_27 : ∀ q_, mgsS ks_10 q_ → q_ < w.heap.size → (dS F G) q_ := fun q_ h hlt => absurd (Nat.le_trans K0.size (hg_16 q_ h)) (by omega)
      have pw_28 : ∀ q_, mgsS ks_10 q_ → w.heap.size ≤ q_ := fun q_ h => Nat.le_trans K0.size (hg_16 q_ h)
      clear hg_15 hg_16
      replace hW := hW.ext K_18
      replace hR := hR.ext K_18
      replace hb_4 := hb_4.ext K_18
      replace K0 := K0.ext K_18
      refine RL.val (x_assignSl rfl) ?_
      refine RL.nil ?_
      refine Run.seq ?_
      refine Run.region ?_
      refine RL.val (x_moveP rfl) ?_
      refine RL.val (x_moveSl rfl) ?_
      have hkl_ks_10 : ks_10.length = ms.length := by have := congrArg List.length hkv_14; simpa using this
      refine RL.st rfl <| St1.call (vals := [.pointer (some ⟨b, 0, none⟩), .slice (a_8) ((ks_10.map Pk.c).length) (c_9)]) en13 rfl (sendK hW _ ks_10 _ ho_12.sl hQ_13 (fun x_ hx_ => pr_19 _ ⟨x_, hx_, rfl⟩) pr_24 (by omega) (by first | decide | assumption | omega)) ?_
      rintro _ w_30 ⟨F_29, rfl, hS_31, hm_32, K_33⟩
      have pr_34 : ∀ q_, F_29 q_ → ¬ G q_ := hm_32.apart (fun q_ h1 h2 => hRW q_ h2 h1) hR.own_lt
      have pr_35 : ¬ F_29 b_1 := hm_32.not pr_6 hb_4.lt
      have pr_36 : ∀ q_, F_29 q_ → ¬ own a_8 q_ := hm_32.apart (fun q_ h1 h2 => pr_19 q_ h2 h1) ho_12.own_lt
      have pr_37 : ∀ q_, F_29 q_ → ¬ mgsS ks_10 q_ := hm_32.apart (fun q_ h1 h2 => pr_24 q_ h2 h1) hQ_13.own_lt
      have pg_38 : ∀ q_, F_29 q_ → q_ < w.heap.size → (dS F G) q_ := hm_32.inS (fun q_ h_ _ => Or.inl h_) K0.size
      replace hR := hR.keepO K_33 hRW
      replace hb_4 := hb_4.keep K_33 pr_6
      replace ho_12 := ho_12.keepO K_33 pr_19
      replace hQ_13 := hQ_13.keepO K_33 pr_24
      replace K0 := K0.trans K_33 (fun x hlt hx => (fun q_ h_ _ => Or.inl h_) x hx hlt)
      clear hm_32
      refine RL.val (x_assignI rfl) ?_
      refine RL.nil ?_
      refine Run.seq ?_
      refine Run.region ?_
      refine RL.val (x_moveSl rfl) ?_
      refine RL.st rfl <| St1.call (vals := [.slice (a_8) ((ks_10.map Pk.c).length) (c_9)]) en12 rfl (spoilMsgs_ _ ks_10 _ _ ho_12 hQ_13 hap_17 (by omega)) ?_
      rintro _ w_39 ⟨rfl, K_40⟩
      have pr_41 : ∀ q_, spS a_8 ks_10 q_ → ¬ G q_ := fun q_ x_ z_ => (sp_case _ x_).elim (fun y_ => pr_20 q_ y_ z_) (fun y_ => (fun y_ => pr_25 q_ y_ z_) y_)
      have pr_42 : ¬ spS a_8 ks_10 b_1 := fun x_ => (sp_case _ x_).elim pr_21 (fun y_ => pr_26 y_)
      have pr_43 : ∀ q_, spS a_8 ks_10 q_ → ¬ F_29 q_ := fun q_ x_ z_ => (sp_case _ x_).elim (fun y_ => (fun q_ h1 h2 => pr_36 q_ h2 h1) q_ y_ z_) (fun y_ => (fun y_ => (fun q_ h1 h2 => pr_37 q_ h2 h1) q_ y_ z_) y_)
      have pg_44 : ∀ q_, spS a_8 ks_10 q_ → q_ < w.heap.size → (dS F G) q_ := fun q_ x_ hl_ => (sp_case _ x_).elim (fun y_ => pg_22 q_ y_ hl_) (fun y_ => (fun y_ => pg_27 q_ y_ hl_) y_)
      replace hR := hR.keepO K_40 (fun q_ h1 h2 => pr_41 q_ h2 h1)
      replace hb_4 := hb_4.keep K_40 pr_42
      replace hS_31 := hS_31.keepO K_40 (fun q_ h1 h2 => pr_43 q_ h2 h1)
      replace K0 := K0.trans K_40 (fun x hlt hx => pg_44 x hx hlt)
      refine RL.nil ?_
      refine Run.seq ?_
      refine Run.region ?_
      refine RL.val (x_moveI rfl) ?_
      refine RL.val (x_moveP rfl) ?_
      refine RL.val (x_fld (o' := 1) Tryz.underlying33 rfl ty31 rfl rfl rfl) ?_
      refine RL.val (litSl (m' := (ms.map Mg.c).length) (x_ld (v := .slice ((o).msgs.a) ((o).msgs.len) ((o).msgs.cap)) ty31 rfl rfl (hb_4.cl.field (i := 1) rfl)) hmn) ?_
      refine RL.st rfl <| St1.call (vals := [.pointer (some ⟨r, 0, none⟩), .slice ((o).msgs.a) ((ms.map Mg.c).length) ((o).msgs.cap)]) en17 rfl (sendRD r _ _ _ _ _ _ _ ms _ _ hR (hml0.ext (hE.new K0 hft)) (fun x hx hn hg => absurd (sl_lt hml0 hn ⟨x, hx, rfl⟩) (by have := hG0 _ hg; omega)) hms hml (by omega)) ?_
      rintro _ w_46 ⟨F_45, rfl, hS_47, hm_48, K_49⟩
      have pr_50 : ¬ F_45 b_1 := hm_48.not pr_7 hb_4.lt
      have pr_51 : ∀ q_, F_45 q_ → ¬ F_29 q_ := hm_48.apart (fun q_ h1 h2 => pr_34 q_ h2 h1) hS_31.own_lt
      have pg_52 : ∀ q_, F_45 q_ → q_ < w.heap.size → (dS F G) q_ := hm_48.inS (fun q_ h_ _ => Or.inr h_) K0.size
      replace hb_4 := hb_4.keep K_49 pr_7
      replace hS_31 := hS_31.keepO K_49 pr_34
      replace K0 := K0.trans K_49 (fun x hlt hx => (fun q_ h_ _ => Or.inr h_) x hx hlt)
      clear hm_48
      refine RL.val (litT (x_eqI rfl rfl) (by rw [hkv_14, hkl_ks_10]; simp)) ?_
      refine RL.val (x_assignB rfl) ?_
      refine RL.nil ?_
      refine Run.ret1 (v := .bool (true)) Tryz.func7 rfl rfl ?_
      rw [hkv_14, hkl_ks_10] at hS_31
      obtain ⟨hb1, hb2, hb3, hb4⟩ := sn_b (nodes := nodes) (id := id) (vs := ms.map Mg.v) hok0.len ms.length (by rw [List.length_map]; exact Nat.le_refl _)
      exact ⟨_, rfl, rfl, _, _, _, _, _, _, hS_31, hS_47, pg_38, pg_52, (fun q_ h1 h2 => pr_51 q_ h2 h1), by omega, by omega, K0⟩
    · try simp only [br] at hc18
      refine Run.seq ?_
      refine Run.region ?_
      refine RL.val (x_eqI rfl rfl) ?_
      refine RL.val (x_assignB rfl) ?_
      refine RL.nil ?_
      refine Run.cond rfl (fun hc35 => ?_) (fun hc35 => ?_)
      · try simp only [br] at hc35
        refine Run.seq ?_
        refine Run.region ?_
        refine RL.val (x_moveP rfl) ?_
        refine RL.val (x_fld (o' := 2) Tryz.underlying33 rfl ty3 rfl rfl rfl) ?_
        refine RL.val (x_ld (v := .int .i64 ((o).a)) ty3 rfl rfl (hb_4.cl.field (i := 2) rfl)) ?_
        refine RL.st rfl <| St1.call (vals := [.pointer (some ⟨b, 0, none⟩), .int .i64 ((o).a)]) en14 rfl (takeX hW ((o).a)) ?_
        rintro _ w_57 ⟨V_53, hV_54, F_55, s_56, rfl, hS_58, hO_59, hA_60, hv_61, hin_62, hap_63, hm_64, K_65⟩
        have pr_67 : ∀ q_, ownS s_56 q_ → ¬ G q_ := fun q_ h_ => (fun q_ h1 h2 => hRW q_ h2 h1) q_ (hin_62 q_ h_)
        have pr_68 : ¬ ownS s_56 b_1 := fun h_ => pr_6 (hin_62 _ h_)
        have pr_69 : ∀ q_, F_55 q_ → ¬ G q_ := hm_64.apart (fun q_ h1 h2 => hRW q_ h2 h1) hR.own_lt
        have pr_70 : ¬ F_55 b_1 := hm_64.not pr_6 hb_4.lt
        have pg_71 : ∀ q_, F_55 q_ → q_ < w.heap.size → (dS F G) q_ := hm_64.inS (fun q_ h_ _ => Or.inl h_) K0.size
        replace hR := hR.keepO K_65 hRW
        replace hb_4 := hb_4.keep K_65 pr_6
        replace K0 := K0.trans K_65 (fun x hlt hx => (fun q_ h_ _ => Or.inl h_) x hx hlt)
        clear hm_64
        have pg_72 : ∀ q_, ownS s_56 q_ → q_ < w.heap.size → (dS F G) q_ := fun q_ h_ => (fun q_ h_ _ => Or.inl h_) q_ (hin_62 q_ h_)
        refine RL.val (x_moveT rfl) ?_
        refine RL.val (x_extract rfl rfl) ?_
        refine RL.val (x_extract rfl rfl) ?_
        refine RL.st rfl <| St1.alloc ty57 ?_
        intro b_73 w_74 hl_77 hb_76 K_75
        replace hb_76 : Blk w_74 b_73 [.int .i64 (0), .int .i64 (0), .int .i64 (0), .int .i64 (0), .string (⟨#[]⟩), .slice (none) (0) (0), .slice (none) (0) (0), .slice (none) (0) (0), .int .i64 (0), .int .i64 (0), .int .i64 (0), .int .i64 (0), .int .i64 (0), .int .i64 (0), .slice (none) (0) (0), .slice (none) (0) (0), .slice (none) (0) (0)] 57 := hb_76
        have ne_78 : b_1 < b_73 := Nat.lt_of_lt_of_le hb_4.lt hl_77
        have pr_79 : ¬ G b_73 := fun h => absurd (hR.own_lt _ h) (by omega)
        have pr_80 : ¬ F_55 b_73 := fun h => absurd (hS_58.own_lt _ h) (by omega)
        have pr_81 : ¬ ownS s_56 b_73 := fun h => absurd (hO_59.own_lt _ h) (by omega)
        have : w.heap.size ≤ b_73 := Nat.le_trans K0.size hl_77
        clear hl_77
        replace hR := hR.ext K_75
        replace hb_4 := hb_4.ext K_75
        replace hS_58 := hS_58.ext K_75
        replace hO_59 := hO_59.ext K_75
        replace K0 := K0.ext K_75
        refine RL.st rfl <| St1.store (v := .agg #[.int .i64 (((mkC V_53 s_56)).kind), .int .i64 (((mkC V_53 s_56)).frm), .int .i64 (((mkC V_53 s_56)).to), .int .i64 (((mkC V_53 s_56)).req), .string (((mkC V_53 s_56)).key), .slice (s_56.ea) (V_53.ent.length) (s_56.ec), .slice (s_56.ma) (V_53.mrk.length) (s_56.mc), .slice (s_56.ca) (V_53.cl.length) (s_56.cc), .int .i64 (((mkC V_53 s_56)).owner), .int .i64 (((mkC V_53 s_56)).part), .int .i64 (((mkC V_53 s_56)).n), .int .i64 ((((mkC V_53 s_56)).ring).parts), .int .i64 ((((mkC V_53 s_56)).ring).copies), .int .i64 ((((mkC V_53 s_56)).ring).spots), .slice (s_56.ba) (V_53.mem.length) (s_56.bc), .slice (s_56.pa) (V_53.pe.length) (s_56.pc), .slice (s_56.sa) (V_53.su.length) (s_56.sc)]) ty57 rfl rfl rfl (by simp [Value.cells, Value.oneCell']) hb_76 (by simp) ?_
        intro w_82 hb_76_ K_83
        have hb_76' : Blk w_82 b_73 [.int .i64 (((mkC V_53 s_56)).kind), .int .i64 (((mkC V_53 s_56)).frm), .int .i64 (((mkC V_53 s_56)).to), .int .i64 (((mkC V_53 s_56)).req), .string (((mkC V_53 s_56)).key), .slice (s_56.ea) (V_53.ent.length) (s_56.ec), .slice (s_56.ma) (V_53.mrk.length) (s_56.mc), .slice (s_56.ca) (V_53.cl.length) (s_56.cc), .int .i64 (((mkC V_53 s_56)).owner), .int .i64 (((mkC V_53 s_56)).part), .int .i64 (((mkC V_53 s_56)).n), .int .i64 ((((mkC V_53 s_56)).ring).parts), .int .i64 ((((mkC V_53 s_56)).ring).copies), .int .i64 ((((mkC V_53 s_56)).ring).spots), .slice (s_56.ba) (V_53.mem.length) (s_56.bc), .slice (s_56.pa) (V_53.pe.length) (s_56.pc), .slice (s_56.sa) (V_53.su.length) (s_56.sc)] 57 := hb_76_
        clear hb_76_
        replace hR := hR.keepO K_83 (fun q_ hq_ eq_ => pr_79 (by simp only [one] at eq_; rw [← eq_]; exact hq_))
        replace hb_4 := hb_4.keep K_83 (by simp only [one]; omega)
        replace hS_58 := hS_58.keepO K_83 (fun q_ hq_ eq_ => pr_80 (by simp only [one] at eq_; rw [← eq_]; exact hq_))
        replace hO_59 := hO_59.keepO K_83 (fun q_ hq_ eq_ => pr_81 (by simp only [one] at eq_; rw [← eq_]; exact hq_))
        replace K0 := K0.trans K_83 (fun x hlt hx => absurd hlt (by simp only [one] at hx; omega))
        replace hb_76 := hb_76'
        clear hb_76'
        refine RL.val (x_assignI rfl) ?_
        refine RL.nil ?_
        refine Run.seq ?_
        refine Run.region ?_
        refine RL.val (x_moveP rfl) ?_
        refine RL.val (x_fld (o' := 2) Tryz.underlying33 rfl ty3 rfl rfl rfl) ?_
        refine RL.val (x_ld (v := .int .i64 ((o).a)) ty3 rfl rfl (hb_4.cl.field (i := 2) rfl)) ?_
        refine RL.st rfl <| St1.call (vals := [.pointer (some ⟨r, 0, none⟩), .int .i64 ((o).a)]) en18 rfl (takeRD hR ((o).a)) ?_
        rintro _ w_86 ⟨F_84, s_85, rfl, hS_87, hrp_88, hm_89, K_90⟩
        have pr_91 : ¬ F_84 b_1 := hm_89.not pr_7 hb_4.lt
        have pr_92 : ∀ q_, F_84 q_ → ¬ F_55 q_ := hm_89.apart (fun q_ h1 h2 => pr_69 q_ h2 h1) hS_58.own_lt
        have pr_93 : ∀ q_, F_84 q_ → ¬ ownS s_56 q_ := hm_89.apart (fun q_ h1 h2 => pr_67 q_ h2 h1) hO_59.own_lt
        have pr_94 : ¬ F_84 b_73 := hm_89.not pr_79 hb_76.lt
        have pg_95 : ∀ q_, F_84 q_ → q_ < w.heap.size → (dS F G) q_ := hm_89.inS (fun q_ h_ _ => Or.inr h_) K0.size
        replace hb_4 := hb_4.keep K_90 pr_7
        replace hS_58 := hS_58.keepO K_90 pr_69
        replace hO_59 := hO_59.keepO K_90 pr_67
        replace hb_76 := hb_76.keep K_90 pr_79
        replace K0 := K0.trans K_90 (fun x hlt hx => (fun q_ h_ _ => Or.inr h_) x hx hlt)
        clear hm_89
        rw [hV_54] at hrp_88
        rw [hV_54]
        refine RL.val (x_moveT rfl) ?_
        refine RL.val (x_extract rfl rfl) ?_
        refine RL.val (x_extract rfl rfl) ?_
        refine RL.st rfl <| St1.alloc ty57 ?_
        intro b_96 w_97 hl_100 hb_99 K_98
        replace hb_99 : Blk w_97 b_96 [.int .i64 (0), .int .i64 (0), .int .i64 (0), .int .i64 (0), .string (⟨#[]⟩), .slice (none) (0) (0), .slice (none) (0) (0), .slice (none) (0) (0), .int .i64 (0), .int .i64 (0), .int .i64 (0), .int .i64 (0), .int .i64 (0), .int .i64 (0), .slice (none) (0) (0), .slice (none) (0) (0), .slice (none) (0) (0)] 57 := hb_99
        have ne_101 : b_1 < b_96 := Nat.lt_of_lt_of_le hb_4.lt hl_100
        have ne_102 : b_73 < b_96 := Nat.lt_of_lt_of_le hb_76.lt hl_100
        have pr_103 : ¬ F_55 b_96 := fun h => absurd (hS_58.own_lt _ h) (by omega)
        have pr_104 : ¬ ownS s_56 b_96 := fun h => absurd (hO_59.own_lt _ h) (by omega)
        have pr_105 : ¬ F_84 b_96 := fun h => absurd (hS_87.own_lt _ h) (by omega)
        have : w.heap.size ≤ b_96 := Nat.le_trans K0.size hl_100
        clear hl_100
        replace hb_4 := hb_4.ext K_98
        replace hS_58 := hS_58.ext K_98
        replace hO_59 := hO_59.ext K_98
        replace hb_76 := hb_76.ext K_98
        replace hS_87 := hS_87.ext K_98
        replace K0 := K0.ext K_98
        refine RL.st rfl <| St1.store (v := .agg #[.int .i64 (((mkC V_53 s_85)).kind), .int .i64 (((mkC V_53 s_85)).frm), .int .i64 (((mkC V_53 s_85)).to), .int .i64 (((mkC V_53 s_85)).req), .string (((mkC V_53 s_85)).key), .slice (s_85.ea) (V_53.ent.length) (s_85.ec), .slice (s_85.ma) (V_53.mrk.length) (s_85.mc), .slice (s_85.ca) (V_53.cl.length) (s_85.cc), .int .i64 (((mkC V_53 s_85)).owner), .int .i64 (((mkC V_53 s_85)).part), .int .i64 (((mkC V_53 s_85)).n), .int .i64 ((((mkC V_53 s_85)).ring).parts), .int .i64 ((((mkC V_53 s_85)).ring).copies), .int .i64 ((((mkC V_53 s_85)).ring).spots), .slice (s_85.ba) (V_53.mem.length) (s_85.bc), .slice (s_85.pa) (V_53.pe.length) (s_85.pc), .slice (s_85.sa) (V_53.su.length) (s_85.sc)]) ty57 rfl rfl rfl (by simp [Value.cells, Value.oneCell']) hb_99 (by simp) ?_
        intro w_106 hb_99_ K_107
        have hb_99' : Blk w_106 b_96 [.int .i64 (((mkC V_53 s_85)).kind), .int .i64 (((mkC V_53 s_85)).frm), .int .i64 (((mkC V_53 s_85)).to), .int .i64 (((mkC V_53 s_85)).req), .string (((mkC V_53 s_85)).key), .slice (s_85.ea) (V_53.ent.length) (s_85.ec), .slice (s_85.ma) (V_53.mrk.length) (s_85.mc), .slice (s_85.ca) (V_53.cl.length) (s_85.cc), .int .i64 (((mkC V_53 s_85)).owner), .int .i64 (((mkC V_53 s_85)).part), .int .i64 (((mkC V_53 s_85)).n), .int .i64 ((((mkC V_53 s_85)).ring).parts), .int .i64 ((((mkC V_53 s_85)).ring).copies), .int .i64 ((((mkC V_53 s_85)).ring).spots), .slice (s_85.ba) (V_53.mem.length) (s_85.bc), .slice (s_85.pa) (V_53.pe.length) (s_85.pc), .slice (s_85.sa) (V_53.su.length) (s_85.sc)] 57 := hb_99_
        clear hb_99_
        replace hb_4 := hb_4.keep K_107 (by simp only [one]; omega)
        replace hS_58 := hS_58.keepO K_107 (fun q_ hq_ eq_ => pr_103 (by simp only [one] at eq_; rw [← eq_]; exact hq_))
        replace hO_59 := hO_59.keepO K_107 (fun q_ hq_ eq_ => pr_104 (by simp only [one] at eq_; rw [← eq_]; exact hq_))
        replace hb_76 := hb_76.keep K_107 (by simp only [one]; omega)
        replace hS_87 := hS_87.keepO K_107 (fun q_ hq_ eq_ => pr_105 (by simp only [one] at eq_; rw [← eq_]; exact hq_))
        replace K0 := K0.trans K_107 (fun x hlt hx => absurd hlt (by simp only [one] at hx; omega))
        replace hb_99 := hb_99'
        clear hb_99'
        refine RL.val (x_assignI rfl) ?_
        refine RL.nil ?_
        refine Run.seq ?_
        refine Run.region ?_
        refine RL.val (x_moveI rfl) ?_
        refine RL.val (x_moveI rfl) ?_
        refine RL.val (litT (x_eqI rfl rfl) (by simp)) ?_
        refine RL.val (x_moveB rfl) ?_
        refine RL.gst (wantedT1 rfl rfl rfl rfl) <| St1.val (x_lds (cs := #[.int .i64 (((mkC V_53 s_56)).kind), .int .i64 (((mkC V_53 s_56)).frm), .int .i64 (((mkC V_53 s_56)).to), .int .i64 (((mkC V_53 s_56)).req), .string (((mkC V_53 s_56)).key), .slice (s_56.ea) (V_53.ent.length) (s_56.ec), .slice (s_56.ma) (V_53.mrk.length) (s_56.mc), .slice (s_56.ca) (V_53.cl.length) (s_56.cc), .int .i64 (((mkC V_53 s_56)).owner), .int .i64 (((mkC V_53 s_56)).part), .int .i64 (((mkC V_53 s_56)).n), .int .i64 ((((mkC V_53 s_56)).ring).parts), .int .i64 ((((mkC V_53 s_56)).ring).copies), .int .i64 ((((mkC V_53 s_56)).ring).spots), .slice (s_56.ba) (V_53.mem.length) (s_56.bc), .slice (s_56.pa) (V_53.pe.length) (s_56.pc), .slice (s_56.sa) (V_53.su.length) (s_56.sc)]) ty57 rfl rfl (hb_76.cl.drop 0 17)) ?_
        refine RL.gst (wantedT1 rfl rfl rfl rfl) <| St1.val (x_lds (cs := #[.int .i64 (((mkC V_53 s_85)).kind), .int .i64 (((mkC V_53 s_85)).frm), .int .i64 (((mkC V_53 s_85)).to), .int .i64 (((mkC V_53 s_85)).req), .string (((mkC V_53 s_85)).key), .slice (s_85.ea) (V_53.ent.length) (s_85.ec), .slice (s_85.ma) (V_53.mrk.length) (s_85.mc), .slice (s_85.ca) (V_53.cl.length) (s_85.cc), .int .i64 (((mkC V_53 s_85)).owner), .int .i64 (((mkC V_53 s_85)).part), .int .i64 (((mkC V_53 s_85)).n), .int .i64 ((((mkC V_53 s_85)).ring).parts), .int .i64 ((((mkC V_53 s_85)).ring).copies), .int .i64 ((((mkC V_53 s_85)).ring).spots), .slice (s_85.ba) (V_53.mem.length) (s_85.bc), .slice (s_85.pa) (V_53.pe.length) (s_85.pc), .slice (s_85.sa) (V_53.su.length) (s_85.sc)]) ty57 rfl rfl (hb_99.cl.drop 0 17)) ?_
        refine RL.gst (wantedT1 rfl rfl rfl rfl) <| St1.call (vals := [.agg #[.int .i64 (((mkC V_53 s_56)).kind), .int .i64 (((mkC V_53 s_56)).frm), .int .i64 (((mkC V_53 s_56)).to), .int .i64 (((mkC V_53 s_56)).req), .string (((mkC V_53 s_56)).key), .slice (s_56.ea) (V_53.ent.length) (s_56.ec), .slice (s_56.ma) (V_53.mrk.length) (s_56.mc), .slice (s_56.ca) (V_53.cl.length) (s_56.cc), .int .i64 (((mkC V_53 s_56)).owner), .int .i64 (((mkC V_53 s_56)).part), .int .i64 (((mkC V_53 s_56)).n), .int .i64 ((((mkC V_53 s_56)).ring).parts), .int .i64 ((((mkC V_53 s_56)).ring).copies), .int .i64 ((((mkC V_53 s_56)).ring).spots), .slice (s_56.ba) (V_53.mem.length) (s_56.bc), .slice (s_56.pa) (V_53.pe.length) (s_56.pc), .slice (s_56.sa) (V_53.su.length) (s_56.sc)], .agg #[.int .i64 (((mkC V_53 s_85)).kind), .int .i64 (((mkC V_53 s_85)).frm), .int .i64 (((mkC V_53 s_85)).to), .int .i64 (((mkC V_53 s_85)).req), .string (((mkC V_53 s_85)).key), .slice (s_85.ea) (V_53.ent.length) (s_85.ec), .slice (s_85.ma) (V_53.mrk.length) (s_85.mc), .slice (s_85.ca) (V_53.cl.length) (s_85.cc), .int .i64 (((mkC V_53 s_85)).owner), .int .i64 (((mkC V_53 s_85)).part), .int .i64 (((mkC V_53 s_85)).n), .int .i64 ((((mkC V_53 s_85)).ring).parts), .int .i64 ((((mkC V_53 s_85)).ring).copies), .int .i64 ((((mkC V_53 s_85)).ring).spots), .slice (s_85.ba) (V_53.mem.length) (s_85.bc), .slice (s_85.pa) (V_53.pe.length) (s_85.pc), .slice (s_85.sa) (V_53.su.length) (s_85.sc)]]) en19 rfl (sameT (sameMsg_ V_53 V_53 s_56 s_85 _ hO_59.r (rp_six hRP hrp_88 (hE.new K0 hft)) hv_61)) ?_
        rintro _ w_108 ⟨rfl, K_109⟩
        replace hb_4 := hb_4.ext K_109
        replace hS_58 := hS_58.ext K_109
        replace hO_59 := hO_59.ext K_109
        replace hb_76 := hb_76.ext K_109
        replace hS_87 := hS_87.ext K_109
        replace hb_99 := hb_99.ext K_109
        replace K0 := K0.ext K_109
        refine RL.val (x_andT rfl rfl rfl) ?_
        refine RL.val (x_assignB rfl) ?_
        refine RL.nil ?_
        refine Run.seq ?_
        refine Run.region ?_
        refine RL.val (x_lds (cs := #[.int .i64 (((mkC V_53 s_56)).kind), .int .i64 (((mkC V_53 s_56)).frm), .int .i64 (((mkC V_53 s_56)).to), .int .i64 (((mkC V_53 s_56)).req), .string (((mkC V_53 s_56)).key), .slice (s_56.ea) (V_53.ent.length) (s_56.ec), .slice (s_56.ma) (V_53.mrk.length) (s_56.mc), .slice (s_56.ca) (V_53.cl.length) (s_56.cc), .int .i64 (((mkC V_53 s_56)).owner), .int .i64 (((mkC V_53 s_56)).part), .int .i64 (((mkC V_53 s_56)).n), .int .i64 ((((mkC V_53 s_56)).ring).parts), .int .i64 ((((mkC V_53 s_56)).ring).copies), .int .i64 ((((mkC V_53 s_56)).ring).spots), .slice (s_56.ba) (V_53.mem.length) (s_56.bc), .slice (s_56.pa) (V_53.pe.length) (s_56.pc), .slice (s_56.sa) (V_53.su.length) (s_56.sc)]) ty57 rfl rfl (hb_76.cl.drop 0 17)) ?_
        refine RL.st rfl <| St1.buildSlice ([(⟨((mkC V_53 s_56)).kind, ((mkC V_53 s_56)).frm, ((mkC V_53 s_56)).to, ((mkC V_53 s_56)).req, ((mkC V_53 s_56)).key, (⟨⟨s_56.ea, V_53.ent.length, s_56.ec⟩, (⟨⟨s_56.ma, V_53.mrk.length, s_56.mc⟩, ⟨s_56.ca, V_53.cl.length, s_56.cc⟩⟩ : CtxC)⟩ : CartC), ((mkC V_53 s_56)).owner, ((mkC V_53 s_56)).part, ((mkC V_53 s_56)).n, (⟨(((mkC V_53 s_56)).ring).parts, (((mkC V_53 s_56)).ring).copies, (((mkC V_53 s_56)).ring).spots, ⟨s_56.ba, V_53.mem.length, s_56.bc⟩⟩ : RingC), ⟨s_56.pa, V_53.pe.length, s_56.pc⟩, ⟨s_56.sa, V_53.su.length, s_56.sc⟩⟩ : MsgC)] : List MsgC) Tryz.underlying31 ty57 rfl rfl (by first | decide | (simp [Enc.size])) ?_
        intro b_110 w_111 hl_114 ho_113 K_112
        have pr_115 : ¬ own (some ⟨b_110, 0, none⟩) b_1 := notNew (ge_new hl_114) hb_4.lt
        have pr_116 : ∀ q_, own (some ⟨b_110, 0, none⟩) q_ → ¬ F_55 q_ := apartNew (ge_new hl_114) hS_58.own_lt
        have pr_117 : ∀ q_, own (some ⟨b_110, 0, none⟩) q_ → ¬ ownS s_56 q_ := apartNew (ge_new hl_114) hO_59.own_lt
        have pr_118 : ¬ own (some ⟨b_110, 0, none⟩) b_73 := notNew (ge_new hl_114) hb_76.lt
        have pr_119 : ∀ q_, own (some ⟨b_110, 0, none⟩) q_ → ¬ F_84 q_ := apartNew (ge_new hl_114) hS_87.own_lt
        have pr_120 : ¬ own (some ⟨b_110, 0, none⟩) b_96 := notNew (ge_new hl_114) hb_99.lt
        have pg_121 : ∀ q_, own (some ⟨b_110, 0, none⟩) q_ → q_ < w.heap.size → (dS F G) q_ := fun q_ h hlt => absurd (Nat.le_trans K0.size ((ge_new hl_114) q_ h)) (by omega)
        have pw_122 : ∀ q_, own (some ⟨b_110, 0, none⟩) q_ → w.heap.size ≤ q_ := fun q_ h => Nat.le_trans K0.size ((ge_new hl_114) q_ h)
        clear hl_114
        replace hb_4 := hb_4.ext K_112
        replace hS_58 := hS_58.ext K_112
        replace hO_59 := hO_59.ext K_112
        replace hb_76 := hb_76.ext K_112
        replace hS_87 := hS_87.ext K_112
        replace hb_99 := hb_99.ext K_112
        replace K0 := K0.ext K_112
        refine RL.st rfl <| St1.call (vals := [.slice (some ⟨b_110, 0, none⟩) (([(⟨((mkC V_53 s_56)).kind, ((mkC V_53 s_56)).frm, ((mkC V_53 s_56)).to, ((mkC V_53 s_56)).req, ((mkC V_53 s_56)).key, (⟨⟨s_56.ea, V_53.ent.length, s_56.ec⟩, (⟨⟨s_56.ma, V_53.mrk.length, s_56.mc⟩, ⟨s_56.ca, V_53.cl.length, s_56.cc⟩⟩ : CtxC)⟩ : CartC), ((mkC V_53 s_56)).owner, ((mkC V_53 s_56)).part, ((mkC V_53 s_56)).n, (⟨(((mkC V_53 s_56)).ring).parts, (((mkC V_53 s_56)).ring).copies, (((mkC V_53 s_56)).ring).spots, ⟨s_56.ba, V_53.mem.length, s_56.bc⟩⟩ : RingC), ⟨s_56.pa, V_53.pe.length, s_56.pc⟩, ⟨s_56.sa, V_53.su.length, s_56.sc⟩⟩ : MsgC)] : List MsgC).length) (([(⟨((mkC V_53 s_56)).kind, ((mkC V_53 s_56)).frm, ((mkC V_53 s_56)).to, ((mkC V_53 s_56)).req, ((mkC V_53 s_56)).key, (⟨⟨s_56.ea, V_53.ent.length, s_56.ec⟩, (⟨⟨s_56.ma, V_53.mrk.length, s_56.mc⟩, ⟨s_56.ca, V_53.cl.length, s_56.cc⟩⟩ : CtxC)⟩ : CartC), ((mkC V_53 s_56)).owner, ((mkC V_53 s_56)).part, ((mkC V_53 s_56)).n, (⟨(((mkC V_53 s_56)).ring).parts, (((mkC V_53 s_56)).ring).copies, (((mkC V_53 s_56)).ring).spots, ⟨s_56.ba, V_53.mem.length, s_56.bc⟩⟩ : RingC), ⟨s_56.pa, V_53.pe.length, s_56.pc⟩, ⟨s_56.sa, V_53.su.length, s_56.sc⟩⟩ : MsgC)] : List MsgC).length)]) en12 rfl (spoilMsgs_ _ [(⟨0, V_53, s_56⟩ : Pk)] _ _ (show OwnSl _ 57 _ _ ([(⟨0, V_53, s_56⟩ : Pk)].map Pk.c) from ho_113) (MgsAt.one hO_59 hA_60 hv_61) (fun q_ h_ => (fun q_ h1 h2 => pr_117 q_ h2 h1) q_ (mgs_one q_ h_)) (by simp)) ?_
        rintro _ w_123 ⟨rfl, K_124⟩
        have pr_125 : ¬ spS (some ⟨b_110, 0, none⟩) [(⟨0, V_53, s_56⟩ : Pk)] b_1 := fun x_ => (sp_one _ x_).elim pr_115 (fun y_ => pr_68 y_)
        have pr_126 : ∀ q_, spS (some ⟨b_110, 0, none⟩) [(⟨0, V_53, s_56⟩ : Pk)] q_ → ¬ F_55 q_ := fun q_ x_ z_ => (sp_one _ x_).elim (fun y_ => pr_116 q_ y_ z_) (fun y_ => (fun y_ => hap_63 q_ y_ z_) y_)
        have pr_127 : ¬ spS (some ⟨b_110, 0, none⟩) [(⟨0, V_53, s_56⟩ : Pk)] b_73 := fun x_ => (sp_one _ x_).elim pr_118 (fun y_ => pr_81 y_)
        have pr_128 : ∀ q_, spS (some ⟨b_110, 0, none⟩) [(⟨0, V_53, s_56⟩ : Pk)] q_ → ¬ F_84 q_ := fun q_ x_ z_ => (sp_one _ x_).elim (fun y_ => pr_119 q_ y_ z_) (fun y_ => (fun y_ => (fun q_ h1 h2 => pr_93 q_ h2 h1) q_ y_ z_) y_)
        have pr_129 : ¬ spS (some ⟨b_110, 0, none⟩) [(⟨0, V_53, s_56⟩ : Pk)] b_96 := fun x_ => (sp_one _ x_).elim pr_120 (fun y_ => pr_104 y_)
        have pg_130 : ∀ q_, spS (some ⟨b_110, 0, none⟩) [(⟨0, V_53, s_56⟩ : Pk)] q_ → q_ < w.heap.size → (dS F G) q_ := fun q_ x_ hl_ => (sp_one _ x_).elim (fun y_ => pg_121 q_ y_ hl_) (fun y_ => (fun y_ => pg_72 q_ y_ hl_) y_)
        replace hb_4 := hb_4.keep K_124 pr_125
        replace hS_58 := hS_58.keepO K_124 (fun q_ h1 h2 => pr_126 q_ h2 h1)
        replace hb_76 := hb_76.keep K_124 pr_127
        replace hS_87 := hS_87.keepO K_124 (fun q_ h1 h2 => pr_128 q_ h2 h1)
        replace hb_99 := hb_99.keep K_124 pr_129
        replace K0 := K0.trans K_124 (fun x hlt hx => pg_130 x hx hlt)
        refine RL.nil ?_
        refine Run.seq ?_
        refine Run.region ?_
        refine RL.val (x_moveB rfl) ?_
        refine RL.val (x_assignB rfl) ?_
        refine RL.nil ?_
        refine Run.ret1 (v := .bool (true)) Tryz.func7 rfl rfl ?_
        exact ⟨_, rfl, rfl, _, _, _, _, _, _, hS_58, hS_87, pg_71, pg_95, (fun q_ h1 h2 => pr_92 q_ h2 h1), by omega, by omega, K0⟩
      · try simp only [br] at hc35
        refine Run.seq ?_
        refine Run.region ?_
        refine RL.val (x_eqI rfl rfl) ?_
        refine RL.val (x_assignB rfl) ?_
        refine RL.nil ?_
        refine Run.cond rfl (fun hc63 => ?_) (fun hc63 => ?_)
        · try simp only [br] at hc63
          refine Run.seq ?_
          refine Run.drawT [] (m := 10) (by kernel_rfl) rfl ?_
          intro w_131 K_132
          replace hW := hW.ext K_132
          replace hR := hR.ext K_132
          replace hb_4 := hb_4.ext K_132
          replace K0 := K0.ext K_132
          refine ⟨fun w' => Blk w' b_1 [.int .i64 ((o).op), .slice ((o).msgs.a) ((o).msgs.len) ((o).msgs.cap), .int .i64 ((o).a), .int .i64 ((o).b)] 33 ∧ True, ?_⟩
          refine RT.takeP (v := .pointer (some ⟨b, 0, none⟩)) 0 rfl (by kernel_rfl) (.inr ⟨hb_4, trivial⟩) (fun _ => (x_moveP rfl)) ?_
          refine RT.takeP (v := .pointer (some ⟨b_1, 2, none⟩)) 1 rfl (by kernel_rfl) (.inr ⟨hb_4, trivial⟩) (fun _ => (x_fld (o' := 2) Tryz.underlying33 rfl ty3 rfl rfl rfl)) ?_
          refine RT.take (v := .int .i64 ((o).a)) 2 rfl (by kernel_rfl) ⟨hb_4, trivial⟩ (by rintro _ ⟨hb_4, -⟩; exact (x_ld (v := .int .i64 ((o).a)) ty3 rfl rfl (hb_4.cl.field (i := 2) rfl))) ?_
          refine RT.takeP (v := .pointer (some ⟨r, 0, none⟩)) 4 rfl (by kernel_rfl) (.inr ⟨hb_4, trivial⟩) (fun _ => (x_moveP rfl)) ?_
          refine RT.takeP (v := .pointer (some ⟨b_1, 2, none⟩)) 5 rfl (by kernel_rfl) (.inr ⟨hb_4, trivial⟩) (fun _ => (x_fld (o' := 2) Tryz.underlying33 rfl ty3 rfl rfl rfl)) ?_
          refine RT.take (v := .int .i64 ((o).a)) 6 rfl (by kernel_rfl) ⟨hb_4, trivial⟩ (by rintro _ ⟨hb_4, -⟩; exact (x_ld (v := .int .i64 ((o).a)) ty3 rfl rfl (hb_4.cl.field (i := 2) rfl))) ?_
          refine RT.st 3 rfl (by kernel_rfl) rfl <| St1.call (vals := [.pointer (some ⟨b, 0, none⟩), .int .i64 ((o).a)]) en20 rfl (loseD hW ((o).a)) ?_
          rintro _ w_134 ⟨F_133, rfl, hS_135, hm_136, K_137⟩
          have pr_138 : ∀ q_, F_133 q_ → ¬ G q_ := hm_136.apart (fun q_ h1 h2 => hRW q_ h2 h1) hR.own_lt
          have pr_139 : ¬ F_133 b_1 := hm_136.not pr_6 hb_4.lt
          have pg_140 : ∀ q_, F_133 q_ → q_ < w.heap.size → (dS F G) q_ := hm_136.inS (fun q_ h_ _ => Or.inl h_) K0.size
          replace hR := hR.keepO K_137 hRW
          replace hb_4 := hb_4.keep K_137 pr_6
          replace K0 := K0.trans K_137 (fun x hlt hx => (fun q_ h_ _ => Or.inl h_) x hx hlt)
          clear hm_136
          refine ⟨.inr ⟨hb_4, trivial⟩, ?_⟩
          refine RT.st 7 rfl (by kernel_rfl) rfl <| St1.call (vals := [.pointer (some ⟨r, 0, none⟩), .int .i64 ((o).a)]) en21 rfl (loseRD hR ((o).a)) ?_
          rintro _ w_142 ⟨F_141, rfl, hS_143, hm_144, K_145⟩
          have pr_146 : ¬ F_141 b_1 := hm_144.not pr_7 hb_4.lt
          have pr_147 : ∀ q_, F_141 q_ → ¬ F_133 q_ := hm_144.apart (fun q_ h1 h2 => pr_138 q_ h2 h1) hS_135.own_lt
          have pg_148 : ∀ q_, F_141 q_ → q_ < w.heap.size → (dS F G) q_ := hm_144.inS (fun q_ h_ _ => Or.inr h_) K0.size
          replace hb_4 := hb_4.keep K_145 pr_7
          replace hS_135 := hS_135.keepO K_145 pr_138
          replace K0 := K0.trans K_145 (fun x hlt hx => (fun q_ h_ _ => Or.inr h_) x hx hlt)
          clear hm_144
          refine ⟨.inr ⟨hb_4, trivial⟩, ?_⟩
          refine RT.takeP (v := .bool (true)) 8 rfl (by kernel_rfl) (.inr ⟨hb_4, trivial⟩) (fun _ => (litT (x_eqI rfl rfl) (by simp))) ?_
          refine RT.takeP (v := .bool (true)) 9 rfl (by kernel_rfl) (.inr ⟨hb_4, trivial⟩) (fun _ => (x_assignB rfl)) ?_
          refine RT.done (by kernel_rfl) ?_
          refine Run.ret1 (v := .bool (true)) Tryz.func7 rfl rfl ?_
          exact ⟨_, rfl, rfl, _, _, _, _, _, _, hS_135, hS_143, pg_140, pg_148, (fun q_ h1 h2 => pr_147 q_ h2 h1), by omega, by omega, K0⟩
        · try simp only [br] at hc63
          refine Run.seq ?_
          refine Run.region ?_
          refine RL.val (x_eqI rfl rfl) ?_
          refine RL.val (x_assignB rfl) ?_
          refine RL.nil ?_
          refine Run.cond rfl (fun hc74 => ?_) (fun hc74 => ?_)
          · try simp only [br] at hc74
            refine Run.seq ?_
            refine Run.drawT [] (m := 10) (by kernel_rfl) rfl ?_
            intro w_149 K_150
            replace hW := hW.ext K_150
            replace hR := hR.ext K_150
            replace hb_4 := hb_4.ext K_150
            replace K0 := K0.ext K_150
            refine ⟨fun w' => Blk w' b_1 [.int .i64 ((o).op), .slice ((o).msgs.a) ((o).msgs.len) ((o).msgs.cap), .int .i64 ((o).a), .int .i64 ((o).b)] 33 ∧ True, ?_⟩
            refine RT.takeP (v := .pointer (some ⟨b, 0, none⟩)) 0 rfl (by kernel_rfl) (.inr ⟨hb_4, trivial⟩) (fun _ => (x_moveP rfl)) ?_
            refine RT.takeP (v := .pointer (some ⟨b_1, 2, none⟩)) 1 rfl (by kernel_rfl) (.inr ⟨hb_4, trivial⟩) (fun _ => (x_fld (o' := 2) Tryz.underlying33 rfl ty3 rfl rfl rfl)) ?_
            refine RT.take (v := .int .i64 ((o).a)) 2 rfl (by kernel_rfl) ⟨hb_4, trivial⟩ (by rintro _ ⟨hb_4, -⟩; exact (x_ld (v := .int .i64 ((o).a)) ty3 rfl rfl (hb_4.cl.field (i := 2) rfl))) ?_
            refine RT.takeP (v := .pointer (some ⟨r, 0, none⟩)) 4 rfl (by kernel_rfl) (.inr ⟨hb_4, trivial⟩) (fun _ => (x_moveP rfl)) ?_
            refine RT.takeP (v := .pointer (some ⟨b_1, 2, none⟩)) 5 rfl (by kernel_rfl) (.inr ⟨hb_4, trivial⟩) (fun _ => (x_fld (o' := 2) Tryz.underlying33 rfl ty3 rfl rfl rfl)) ?_
            refine RT.take (v := .int .i64 ((o).a)) 6 rfl (by kernel_rfl) ⟨hb_4, trivial⟩ (by rintro _ ⟨hb_4, -⟩; exact (x_ld (v := .int .i64 ((o).a)) ty3 rfl rfl (hb_4.cl.field (i := 2) rfl))) ?_
            refine RT.st 3 rfl (by kernel_rfl) rfl <| St1.call (vals := [.pointer (some ⟨b, 0, none⟩), .int .i64 ((o).a)]) en22 rfl (twiceD hW ((o).a) (by first | decide | assumption | omega)) ?_
            rintro _ w_152 ⟨F_151, rfl, hS_153, hm_154, K_155⟩
            have pr_156 : ∀ q_, F_151 q_ → ¬ G q_ := hm_154.apart (fun q_ h1 h2 => hRW q_ h2 h1) hR.own_lt
            have pr_157 : ¬ F_151 b_1 := hm_154.not pr_6 hb_4.lt
            have pg_158 : ∀ q_, F_151 q_ → q_ < w.heap.size → (dS F G) q_ := hm_154.inS (fun q_ h_ _ => Or.inl h_) K0.size
            replace hR := hR.keepO K_155 hRW
            replace hb_4 := hb_4.keep K_155 pr_6
            replace K0 := K0.trans K_155 (fun x hlt hx => (fun q_ h_ _ => Or.inl h_) x hx hlt)
            clear hm_154
            refine ⟨.inr ⟨hb_4, trivial⟩, ?_⟩
            refine RT.st 7 rfl (by kernel_rfl) rfl <| St1.call (vals := [.pointer (some ⟨r, 0, none⟩), .int .i64 ((o).a)]) en23 rfl (twiceRD hR ((o).a) (by omega)) ?_
            rintro _ w_160 ⟨F_159, rfl, hS_161, hm_162, K_163⟩
            have pr_164 : ¬ F_159 b_1 := hm_162.not pr_7 hb_4.lt
            have pr_165 : ∀ q_, F_159 q_ → ¬ F_151 q_ := hm_162.apart (fun q_ h1 h2 => pr_156 q_ h2 h1) hS_153.own_lt
            have pg_166 : ∀ q_, F_159 q_ → q_ < w.heap.size → (dS F G) q_ := hm_162.inS (fun q_ h_ _ => Or.inr h_) K0.size
            replace hb_4 := hb_4.keep K_163 pr_7
            replace hS_153 := hS_153.keepO K_163 pr_156
            replace K0 := K0.trans K_163 (fun x hlt hx => (fun q_ h_ _ => Or.inr h_) x hx hlt)
            clear hm_162
            refine ⟨.inr ⟨hb_4, trivial⟩, ?_⟩
            refine RT.takeP (v := .bool (true)) 8 rfl (by kernel_rfl) (.inr ⟨hb_4, trivial⟩) (fun _ => (litT (x_eqI rfl rfl) (by simp))) ?_
            refine RT.takeP (v := .bool (true)) 9 rfl (by kernel_rfl) (.inr ⟨hb_4, trivial⟩) (fun _ => (x_assignB rfl)) ?_
            refine RT.done (by kernel_rfl) ?_
            refine Run.ret1 (v := .bool (true)) Tryz.func7 rfl rfl ?_
            have hb1 := twiceN_le id pv o.a
            exact ⟨_, rfl, rfl, _, _, _, _, _, _, hS_153, hS_161, pg_158, pg_166, (fun q_ h1 h2 => pr_165 q_ h2 h1), by omega, by omega, K0⟩
          · try simp only [br] at hc74
            refine Run.seq ?_
            refine Run.region ?_
            refine RL.val (x_eqI rfl rfl) ?_
            refine RL.val (x_assignB rfl) ?_
            refine RL.nil ?_
            refine Run.cond rfl (fun hc85 => ?_) (fun hc85 => ?_)
            · try simp only [br] at hc85
              refine Run.seq ?_
              refine Run.drawT [] (m := 14) (by kernel_rfl) rfl ?_
              intro w_167 K_168
              replace hW := hW.ext K_168
              replace hR := hR.ext K_168
              replace hb_4 := hb_4.ext K_168
              replace K0 := K0.ext K_168
              refine ⟨fun w' => Blk w' b_1 [.int .i64 ((o).op), .slice ((o).msgs.a) ((o).msgs.len) ((o).msgs.cap), .int .i64 ((o).a), .int .i64 ((o).b)] 33 ∧ True, ?_⟩
              refine RT.takeP (v := .pointer (some ⟨b, 0, none⟩)) 0 rfl (by kernel_rfl) (.inr ⟨hb_4, trivial⟩) (fun _ => (x_moveP rfl)) ?_
              refine RT.takeP (v := .pointer (some ⟨b_1, 2, none⟩)) 1 rfl (by kernel_rfl) (.inr ⟨hb_4, trivial⟩) (fun _ => (x_fld (o' := 2) Tryz.underlying33 rfl ty3 rfl rfl rfl)) ?_
              refine RT.take (v := .int .i64 ((o).a)) 2 rfl (by kernel_rfl) ⟨hb_4, trivial⟩ (by rintro _ ⟨hb_4, -⟩; exact (x_ld (v := .int .i64 ((o).a)) ty3 rfl rfl (hb_4.cl.field (i := 2) rfl))) ?_
              refine RT.takeP (v := .pointer (some ⟨b_1, 3, none⟩)) 3 rfl (by kernel_rfl) (.inr ⟨hb_4, trivial⟩) (fun _ => (x_fld (o' := 3) Tryz.underlying33 rfl ty3 rfl rfl rfl)) ?_
              refine RT.take (v := .int .i64 ((o).b)) 4 rfl (by kernel_rfl) ⟨hb_4, trivial⟩ (by rintro _ ⟨hb_4, -⟩; exact (x_ld (v := .int .i64 ((o).b)) ty3 rfl rfl (hb_4.cl.field (i := 3) rfl))) ?_
              refine RT.takeP (v := .pointer (some ⟨r, 0, none⟩)) 6 rfl (by kernel_rfl) (.inr ⟨hb_4, trivial⟩) (fun _ => (x_moveP rfl)) ?_
              refine RT.takeP (v := .pointer (some ⟨b_1, 2, none⟩)) 7 rfl (by kernel_rfl) (.inr ⟨hb_4, trivial⟩) (fun _ => (x_fld (o' := 2) Tryz.underlying33 rfl ty3 rfl rfl rfl)) ?_
              refine RT.take (v := .int .i64 ((o).a)) 8 rfl (by kernel_rfl) ⟨hb_4, trivial⟩ (by rintro _ ⟨hb_4, -⟩; exact (x_ld (v := .int .i64 ((o).a)) ty3 rfl rfl (hb_4.cl.field (i := 2) rfl))) ?_
              refine RT.takeP (v := .pointer (some ⟨b_1, 3, none⟩)) 9 rfl (by kernel_rfl) (.inr ⟨hb_4, trivial⟩) (fun _ => (x_fld (o' := 3) Tryz.underlying33 rfl ty3 rfl rfl rfl)) ?_
              refine RT.take (v := .int .i64 ((o).b)) 10 rfl (by kernel_rfl) ⟨hb_4, trivial⟩ (by rintro _ ⟨hb_4, -⟩; exact (x_ld (v := .int .i64 ((o).b)) ty3 rfl rfl (hb_4.cl.field (i := 3) rfl))) ?_
              refine RT.st 5 rfl (by kernel_rfl) rfl <| St1.call (vals := [.pointer (some ⟨b, 0, none⟩), .int .i64 ((o).a), .int .i64 ((o).b)]) en24 rfl (cutD hW ((o).a) ((o).b)) ?_
              rintro _ w_170 ⟨F_169, rfl, hS_171, hm_172, K_173⟩
              have pr_174 : ∀ q_, F_169 q_ → ¬ G q_ := hm_172.apart (fun q_ h1 h2 => hRW q_ h2 h1) hR.own_lt
              have pr_175 : ¬ F_169 b_1 := hm_172.not pr_6 hb_4.lt
              have pg_176 : ∀ q_, F_169 q_ → q_ < w.heap.size → (dS F G) q_ := hm_172.inS (fun q_ h_ _ => Or.inl h_) K0.size
              replace hR := hR.keepO K_173 hRW
              replace hb_4 := hb_4.keep K_173 pr_6
              replace K0 := K0.trans K_173 (fun x hlt hx => (fun q_ h_ _ => Or.inl h_) x hx hlt)
              clear hm_172
              refine ⟨.inr ⟨hb_4, trivial⟩, ?_⟩
              refine RT.st 11 rfl (by kernel_rfl) rfl <| St1.call (vals := [.pointer (some ⟨r, 0, none⟩), .int .i64 ((o).a), .int .i64 ((o).b)]) en25 rfl (cutRD hR ((o).a) ((o).b) (by omega)) ?_
              rintro _ w_178 ⟨F_177, rfl, hS_179, hm_180, K_181⟩
              have pr_182 : ¬ F_177 b_1 := hm_180.not pr_7 hb_4.lt
              have pr_183 : ∀ q_, F_177 q_ → ¬ F_169 q_ := hm_180.apart (fun q_ h1 h2 => pr_174 q_ h2 h1) hS_171.own_lt
              have pg_184 : ∀ q_, F_177 q_ → q_ < w.heap.size → (dS F G) q_ := hm_180.inS (fun q_ h_ _ => Or.inr h_) K0.size
              replace hb_4 := hb_4.keep K_181 pr_7
              replace hS_171 := hS_171.keepO K_181 pr_174
              replace K0 := K0.trans K_181 (fun x hlt hx => (fun q_ h_ _ => Or.inr h_) x hx hlt)
              clear hm_180
              refine ⟨.inr ⟨hb_4, trivial⟩, ?_⟩
              refine RT.takeP (v := .bool (true)) 12 rfl (by kernel_rfl) (.inr ⟨hb_4, trivial⟩) (fun _ => (litT (x_eqI rfl rfl) (by simp))) ?_
              refine RT.takeP (v := .bool (true)) 13 rfl (by kernel_rfl) (.inr ⟨hb_4, trivial⟩) (fun _ => (x_assignB rfl)) ?_
              refine RT.done (by kernel_rfl) ?_
              refine Run.ret1 (v := .bool (true)) Tryz.func7 rfl rfl ?_
              have hb2 := cutL_len (nodes := nodes) (cs := cs) o.a o.b
              exact ⟨_, rfl, rfl, _, _, _, _, _, _, hS_171, hS_179, pg_176, pg_184, (fun q_ h1 h2 => pr_183 q_ h2 h1), by omega, by omega, K0⟩
            · try simp only [br] at hc85
              refine Run.seq ?_
              refine Run.region ?_
              refine RL.val (x_eqI rfl rfl) ?_
              refine RL.val (x_assignB rfl) ?_
              refine RL.nil ?_
              refine Run.cond rfl (fun hc100 => ?_) (fun hc100 => ?_)
              · try simp only [br] at hc100
                refine Run.seq ?_
                refine Run.drawT [] (m := 14) (by kernel_rfl) rfl ?_
                intro w_185 K_186
                replace hW := hW.ext K_186
                replace hR := hR.ext K_186
                replace hb_4 := hb_4.ext K_186
                replace K0 := K0.ext K_186
                refine ⟨fun w' => Blk w' b_1 [.int .i64 ((o).op), .slice ((o).msgs.a) ((o).msgs.len) ((o).msgs.cap), .int .i64 ((o).a), .int .i64 ((o).b)] 33 ∧ True, ?_⟩
                refine RT.takeP (v := .pointer (some ⟨b, 0, none⟩)) 0 rfl (by kernel_rfl) (.inr ⟨hb_4, trivial⟩) (fun _ => (x_moveP rfl)) ?_
                refine RT.takeP (v := .pointer (some ⟨b_1, 2, none⟩)) 1 rfl (by kernel_rfl) (.inr ⟨hb_4, trivial⟩) (fun _ => (x_fld (o' := 2) Tryz.underlying33 rfl ty3 rfl rfl rfl)) ?_
                refine RT.take (v := .int .i64 ((o).a)) 2 rfl (by kernel_rfl) ⟨hb_4, trivial⟩ (by rintro _ ⟨hb_4, -⟩; exact (x_ld (v := .int .i64 ((o).a)) ty3 rfl rfl (hb_4.cl.field (i := 2) rfl))) ?_
                refine RT.takeP (v := .pointer (some ⟨b_1, 3, none⟩)) 3 rfl (by kernel_rfl) (.inr ⟨hb_4, trivial⟩) (fun _ => (x_fld (o' := 3) Tryz.underlying33 rfl ty3 rfl rfl rfl)) ?_
                refine RT.take (v := .int .i64 ((o).b)) 4 rfl (by kernel_rfl) ⟨hb_4, trivial⟩ (by rintro _ ⟨hb_4, -⟩; exact (x_ld (v := .int .i64 ((o).b)) ty3 rfl rfl (hb_4.cl.field (i := 3) rfl))) ?_
                refine RT.takeP (v := .pointer (some ⟨r, 0, none⟩)) 6 rfl (by kernel_rfl) (.inr ⟨hb_4, trivial⟩) (fun _ => (x_moveP rfl)) ?_
                refine RT.takeP (v := .pointer (some ⟨b_1, 2, none⟩)) 7 rfl (by kernel_rfl) (.inr ⟨hb_4, trivial⟩) (fun _ => (x_fld (o' := 2) Tryz.underlying33 rfl ty3 rfl rfl rfl)) ?_
                refine RT.take (v := .int .i64 ((o).a)) 8 rfl (by kernel_rfl) ⟨hb_4, trivial⟩ (by rintro _ ⟨hb_4, -⟩; exact (x_ld (v := .int .i64 ((o).a)) ty3 rfl rfl (hb_4.cl.field (i := 2) rfl))) ?_
                refine RT.takeP (v := .pointer (some ⟨b_1, 3, none⟩)) 9 rfl (by kernel_rfl) (.inr ⟨hb_4, trivial⟩) (fun _ => (x_fld (o' := 3) Tryz.underlying33 rfl ty3 rfl rfl rfl)) ?_
                refine RT.take (v := .int .i64 ((o).b)) 10 rfl (by kernel_rfl) ⟨hb_4, trivial⟩ (by rintro _ ⟨hb_4, -⟩; exact (x_ld (v := .int .i64 ((o).b)) ty3 rfl rfl (hb_4.cl.field (i := 3) rfl))) ?_
                refine RT.st 5 rfl (by kernel_rfl) rfl <| St1.call (vals := [.pointer (some ⟨b, 0, none⟩), .int .i64 ((o).a), .int .i64 ((o).b)]) en26 rfl (mendD hW ((o).a) ((o).b)) ?_
                rintro _ w_188 ⟨F_187, rfl, hS_189, hm_190, K_191⟩
                have pr_192 : ∀ q_, F_187 q_ → ¬ G q_ := hm_190.apart (fun q_ h1 h2 => hRW q_ h2 h1) hR.own_lt
                have pr_193 : ¬ F_187 b_1 := hm_190.not pr_6 hb_4.lt
                have pg_194 : ∀ q_, F_187 q_ → q_ < w.heap.size → (dS F G) q_ := hm_190.inS (fun q_ h_ _ => Or.inl h_) K0.size
                replace hR := hR.keepO K_191 hRW
                replace hb_4 := hb_4.keep K_191 pr_6
                replace K0 := K0.trans K_191 (fun x hlt hx => (fun q_ h_ _ => Or.inl h_) x hx hlt)
                clear hm_190
                refine ⟨.inr ⟨hb_4, trivial⟩, ?_⟩
                refine RT.st 11 rfl (by kernel_rfl) rfl <| St1.call (vals := [.pointer (some ⟨r, 0, none⟩), .int .i64 ((o).a), .int .i64 ((o).b)]) en27 rfl (mendRD hR ((o).a) ((o).b)) ?_
                rintro _ w_196 ⟨F_195, rfl, hS_197, hm_198, K_199⟩
                have pr_200 : ¬ F_195 b_1 := hm_198.not pr_7 hb_4.lt
                have pr_201 : ∀ q_, F_195 q_ → ¬ F_187 q_ := hm_198.apart (fun q_ h1 h2 => pr_192 q_ h2 h1) hS_189.own_lt
                have pg_202 : ∀ q_, F_195 q_ → q_ < w.heap.size → (dS F G) q_ := hm_198.inS (fun q_ h_ _ => Or.inr h_) K0.size
                replace hb_4 := hb_4.keep K_199 pr_7
                replace hS_189 := hS_189.keepO K_199 pr_192
                replace K0 := K0.trans K_199 (fun x hlt hx => (fun q_ h_ _ => Or.inr h_) x hx hlt)
                clear hm_198
                refine ⟨.inr ⟨hb_4, trivial⟩, ?_⟩
                refine RT.takeP (v := .bool (true)) 12 rfl (by kernel_rfl) (.inr ⟨hb_4, trivial⟩) (fun _ => (litT (x_eqI rfl rfl) (by simp))) ?_
                refine RT.takeP (v := .bool (true)) 13 rfl (by kernel_rfl) (.inr ⟨hb_4, trivial⟩) (fun _ => (x_assignB rfl)) ?_
                refine RT.done (by kernel_rfl) ?_
                refine Run.ret1 (v := .bool (true)) Tryz.func7 rfl rfl ?_
                have hb2 := mendL_len (nodes := nodes) (cs := cs) o.a o.b
                exact ⟨_, rfl, rfl, _, _, _, _, _, _, hS_189, hS_197, pg_194, pg_202, (fun q_ h1 h2 => pr_201 q_ h2 h1), by omega, by omega, K0⟩
              · try simp only [br] at hc100
                refine Run.seq ?_
                refine Run.region ?_
                refine RL.val (x_eqI rfl rfl) ?_
                refine RL.val (x_assignB rfl) ?_
                refine RL.nil ?_
                refine Run.cond rfl (fun hc115 => ?_) (fun hc115 => ?_)
                · try simp only [br] at hc115
                  refine Run.seq ?_
                  refine Run.drawT [] (m := 10) (by kernel_rfl) rfl ?_
                  intro w_203 K_204
                  replace hW := hW.ext K_204
                  replace hR := hR.ext K_204
                  replace hb_4 := hb_4.ext K_204
                  replace K0 := K0.ext K_204
                  refine ⟨fun w' => Blk w' b_1 [.int .i64 ((o).op), .slice ((o).msgs.a) ((o).msgs.len) ((o).msgs.cap), .int .i64 ((o).a), .int .i64 ((o).b)] 33 ∧ True, ?_⟩
                  refine RT.takeP (v := .pointer (some ⟨b, 0, none⟩)) 0 rfl (by kernel_rfl) (.inr ⟨hb_4, trivial⟩) (fun _ => (x_moveP rfl)) ?_
                  refine RT.takeP (v := .pointer (some ⟨b_1, 2, none⟩)) 1 rfl (by kernel_rfl) (.inr ⟨hb_4, trivial⟩) (fun _ => (x_fld (o' := 2) Tryz.underlying33 rfl ty3 rfl rfl rfl)) ?_
                  refine RT.take (v := .int .i64 ((o).a)) 2 rfl (by kernel_rfl) ⟨hb_4, trivial⟩ (by rintro _ ⟨hb_4, -⟩; exact (x_ld (v := .int .i64 ((o).a)) ty3 rfl rfl (hb_4.cl.field (i := 2) rfl))) ?_
                  refine RT.takeP (v := .pointer (some ⟨r, 0, none⟩)) 4 rfl (by kernel_rfl) (.inr ⟨hb_4, trivial⟩) (fun _ => (x_moveP rfl)) ?_
                  refine RT.takeP (v := .pointer (some ⟨b_1, 2, none⟩)) 5 rfl (by kernel_rfl) (.inr ⟨hb_4, trivial⟩) (fun _ => (x_fld (o' := 2) Tryz.underlying33 rfl ty3 rfl rfl rfl)) ?_
                  refine RT.take (v := .int .i64 ((o).a)) 6 rfl (by kernel_rfl) ⟨hb_4, trivial⟩ (by rintro _ ⟨hb_4, -⟩; exact (x_ld (v := .int .i64 ((o).a)) ty3 rfl rfl (hb_4.cl.field (i := 2) rfl))) ?_
                  refine RT.st 3 rfl (by kernel_rfl) rfl <| St1.call (vals := [.pointer (some ⟨b, 0, none⟩), .int .i64 ((o).a)]) en15 rfl (passD hW ((o).a)) ?_
                  rintro _ w_206 ⟨F_205, rfl, hS_207, hm_208, K_209⟩
                  have pr_210 : ∀ q_, F_205 q_ → ¬ G q_ := hm_208.apart (fun q_ h1 h2 => hRW q_ h2 h1) hR.own_lt
                  have pr_211 : ¬ F_205 b_1 := hm_208.not pr_6 hb_4.lt
                  have pg_212 : ∀ q_, F_205 q_ → q_ < w.heap.size → (dS F G) q_ := hm_208.inS (fun q_ h_ _ => Or.inl h_) K0.size
                  replace hR := hR.keepO K_209 hRW
                  replace hb_4 := hb_4.keep K_209 pr_6
                  replace K0 := K0.trans K_209 (fun x hlt hx => (fun q_ h_ _ => Or.inl h_) x hx hlt)
                  clear hm_208
                  refine ⟨.inr ⟨hb_4, trivial⟩, ?_⟩
                  refine RT.st 7 rfl (by kernel_rfl) rfl <| St1.call (vals := [.pointer (some ⟨r, 0, none⟩), .int .i64 ((o).a)]) en28 rfl (passRD hR ((o).a)) ?_
                  rintro _ w_214 ⟨F_213, rfl, hS_215, hm_216, K_217⟩
                  have pr_218 : ¬ F_213 b_1 := hm_216.not pr_7 hb_4.lt
                  have pr_219 : ∀ q_, F_213 q_ → ¬ F_205 q_ := hm_216.apart (fun q_ h1 h2 => pr_210 q_ h2 h1) hS_207.own_lt
                  have pg_220 : ∀ q_, F_213 q_ → q_ < w.heap.size → (dS F G) q_ := hm_216.inS (fun q_ h_ _ => Or.inr h_) K0.size
                  replace hb_4 := hb_4.keep K_217 pr_7
                  replace hS_207 := hS_207.keepO K_217 pr_210
                  replace K0 := K0.trans K_217 (fun x hlt hx => (fun q_ h_ _ => Or.inr h_) x hx hlt)
                  clear hm_216
                  refine ⟨.inr ⟨hb_4, trivial⟩, ?_⟩
                  refine RT.takeP (v := .bool (true)) 8 rfl (by kernel_rfl) (.inr ⟨hb_4, trivial⟩) (fun _ => (litT (x_eqI rfl rfl) (by simp))) ?_
                  refine RT.takeP (v := .bool (true)) 9 rfl (by kernel_rfl) (.inr ⟨hb_4, trivial⟩) (fun _ => (x_assignB rfl)) ?_
                  refine RT.done (by kernel_rfl) ?_
                  refine Run.ret1 (v := .bool (true)) Tryz.func7 rfl rfl ?_
                  exact ⟨_, rfl, rfl, _, _, _, _, _, _, hS_207, hS_215, pg_212, pg_220, (fun q_ h1 h2 => pr_219 q_ h2 h1), by omega, by omega, K0⟩
                · try simp only [br] at hc115
                  refine Run.skip ?_
                  refine Run.inBlock ?_
                  refine Run.seq ?_
                  refine Run.drawT [] (m := 10) (by kernel_rfl) rfl ?_
                  intro w_221 K_222
                  replace hW := hW.ext K_222
                  replace hR := hR.ext K_222
                  replace hb_4 := hb_4.ext K_222
                  replace K0 := K0.ext K_222
                  refine ⟨fun w' => Blk w' b_1 [.int .i64 ((o).op), .slice ((o).msgs.a) ((o).msgs.len) ((o).msgs.cap), .int .i64 ((o).a), .int .i64 ((o).b)] 33 ∧ True, ?_⟩
                  refine RT.takeP (v := .pointer (some ⟨b, 0, none⟩)) 0 rfl (by kernel_rfl) (.inr ⟨hb_4, trivial⟩) (fun _ => (x_moveP rfl)) ?_
                  refine RT.takeP (v := .pointer (some ⟨b_1, 2, none⟩)) 1 rfl (by kernel_rfl) (.inr ⟨hb_4, trivial⟩) (fun _ => (x_fld (o' := 2) Tryz.underlying33 rfl ty3 rfl rfl rfl)) ?_
                  refine RT.take (v := .int .i64 ((o).a)) 2 rfl (by kernel_rfl) ⟨hb_4, trivial⟩ (by rintro _ ⟨hb_4, -⟩; exact (x_ld (v := .int .i64 ((o).a)) ty3 rfl rfl (hb_4.cl.field (i := 2) rfl))) ?_
                  refine RT.takeP (v := .pointer (some ⟨r, 0, none⟩)) 4 rfl (by kernel_rfl) (.inr ⟨hb_4, trivial⟩) (fun _ => (x_moveP rfl)) ?_
                  refine RT.takeP (v := .pointer (some ⟨b_1, 2, none⟩)) 5 rfl (by kernel_rfl) (.inr ⟨hb_4, trivial⟩) (fun _ => (x_fld (o' := 2) Tryz.underlying33 rfl ty3 rfl rfl rfl)) ?_
                  refine RT.take (v := .int .i64 ((o).a)) 6 rfl (by kernel_rfl) ⟨hb_4, trivial⟩ (by rintro _ ⟨hb_4, -⟩; exact (x_ld (v := .int .i64 ((o).a)) ty3 rfl rfl (hb_4.cl.field (i := 2) rfl))) ?_
                  refine RT.st 3 rfl (by kernel_rfl) rfl <| St1.call (vals := [.pointer (some ⟨b, 0, none⟩), .int .i64 ((o).a)]) en29 rfl (forgetD hW ((o).a)) ?_
                  rintro _ w_224 ⟨F_223, rfl, hS_225, hm_226, K_227⟩
                  have pr_228 : ∀ q_, F_223 q_ → ¬ G q_ := hm_226.apart (fun q_ h1 h2 => hRW q_ h2 h1) hR.own_lt
                  have pr_229 : ¬ F_223 b_1 := hm_226.not pr_6 hb_4.lt
                  have pg_230 : ∀ q_, F_223 q_ → q_ < w.heap.size → (dS F G) q_ := hm_226.inS (fun q_ h_ _ => Or.inl h_) K0.size
                  replace hR := hR.keepO K_227 hRW
                  replace hb_4 := hb_4.keep K_227 pr_6
                  replace K0 := K0.trans K_227 (fun x hlt hx => (fun q_ h_ _ => Or.inl h_) x hx hlt)
                  clear hm_226
                  refine ⟨.inr ⟨hb_4, trivial⟩, ?_⟩
                  refine RT.st 7 rfl (by kernel_rfl) rfl <| St1.call (vals := [.pointer (some ⟨r, 0, none⟩), .int .i64 ((o).a)]) en30 rfl (forgetRD hR ((o).a)) ?_
                  rintro _ w_232 ⟨F_231, rfl, hS_233, hm_234, K_235⟩
                  have pr_236 : ¬ F_231 b_1 := hm_234.not pr_7 hb_4.lt
                  have pr_237 : ∀ q_, F_231 q_ → ¬ F_223 q_ := hm_234.apart (fun q_ h1 h2 => pr_228 q_ h2 h1) hS_225.own_lt
                  have pg_238 : ∀ q_, F_231 q_ → q_ < w.heap.size → (dS F G) q_ := hm_234.inS (fun q_ h_ _ => Or.inr h_) K0.size
                  replace hb_4 := hb_4.keep K_235 pr_7
                  replace hS_225 := hS_225.keepO K_235 pr_228
                  replace K0 := K0.trans K_235 (fun x hlt hx => (fun q_ h_ _ => Or.inr h_) x hx hlt)
                  clear hm_234
                  refine ⟨.inr ⟨hb_4, trivial⟩, ?_⟩
                  refine RT.takeP (v := .bool (true)) 8 rfl (by kernel_rfl) (.inr ⟨hb_4, trivial⟩) (fun _ => (litT (x_eqI rfl rfl) (by simp))) ?_
                  refine RT.takeP (v := .bool (true)) 9 rfl (by kernel_rfl) (.inr ⟨hb_4, trivial⟩) (fun _ => (x_assignB rfl)) ?_
                  refine RT.done (by kernel_rfl) ?_
                  refine Run.ret1 (v := .bool (true)) Tryz.func7 rfl rfl ?_
                  exact ⟨_, rfl, rfl, _, _, _, _, _, _, hS_225, hS_233, pg_230, pg_238, (fun q_ h1 h2 => pr_237 q_ h2 h1), by omega, by omega, K0⟩
  · try simp only [br] at hc18
    refine Run.region ?_
    refine RL.val (x_eqI rfl rfl) ?_
    refine RL.val (x_assignB rfl) ?_
    refine RL.nil ?_
    refine Run.cond rfl (fun hc18 => ?_) (fun hc18 => ?_)
    · try simp only [br] at hc18
      refine Run.seq ?_
      refine Run.region ?_
      refine RL.val (x_fld (o' := 1) Tryz.underlying33 rfl ty31 rfl rfl rfl) ?_
      refine RL.val (litSl (m' := (ms.map Mg.c).length) (x_ld (v := .slice ((o).msgs.a) ((o).msgs.len) ((o).msgs.cap)) ty31 rfl rfl (hb_4.cl.field (i := 1) rfl)) hmn) ?_
      refine RL.st rfl <| St1.call (vals := [.slice ((o).msgs.a) ((ms.map Mg.c).length) ((o).msgs.cap)]) en16 rfl (msgs_ _ ms _ _ (hml0.ext (hE.new K0 hft)) (fun m hm => ⟨(hRP _ _ (hms m hm)).1.ext (hE.new K0 hft), (hRP _ _ (hms m hm)).2⟩) hml) ?_
      rintro _ w_242 ⟨a_239, c_240, ks_241, rfl, ho_243, hQ_244, hkv_245, hg_246, hg_247, hap_248, K_249⟩
      have pr_250 : ∀ q_, own a_239 q_ → ¬ F q_ := apartNew hg_246 hW.own_lt
      have pr_251 : ∀ q_, own a_239 q_ → ¬ G q_ := apartNew hg_246 hR.own_lt
      have pr_252 : ¬ own a_239 b_1 := notNew hg_246 hb_4.lt
      have pg_253 : ∀ q_, own a_239 q_ → q_ < w.heap.size → (dS F G) q_ := fun q_ h hlt => absurd (Nat.le_trans K0.size (hg_246 q_ h)) (by omega)
      have pw_254 : ∀ q_, own a_239 q_ → w.heap.size ≤ q_ := fun q_ h => Nat.le_trans K0.size (hg_246 q_ h)
      have pr_255 : ∀ q_, mgsS ks_241 q_ → ¬ F q_ := apartNew hg_247 hW.own_lt
      have pr_256 : ∀ q_, mgsS ks_241 q_ → ¬ G q_ := apartNew hg_247 hR.own_lt
      have pr_257 : ¬ mgsS ks_241 b_1 := notNew hg_247 hb_4.lt
      have pg_258 : ∀ q_, mgsS ks_241 q_ → q_ < w.heap.size → (dS F G) q_ := fun q_ h hlt => absurd (Nat.le_trans K0.size (hg_247 q_ h)) (by omega)
      have pw_259 : ∀ q_, mgsS ks_241 q_ → w.heap.size ≤ q_ := fun q_ h => Nat.le_trans K0.size (hg_247 q_ h)
      clear hg_246 hg_247
      replace hW := hW.ext K_249
      replace hR := hR.ext K_249
      replace hb_4 := hb_4.ext K_249
      replace K0 := K0.ext K_249
      refine RL.val (x_assignSl rfl) ?_
      refine RL.nil ?_
      refine Run.seq ?_
      refine Run.region ?_
      refine RL.val (x_moveP rfl) ?_
      refine RL.val (x_moveSl rfl) ?_
      have hkl_ks_241 : ks_241.length = ms.length := by have := congrArg List.length hkv_245; simpa using this
      refine RL.st rfl <| St1.call (vals := [.pointer (some ⟨b, 0, none⟩), .slice (a_239) ((ks_241.map Pk.c).length) (c_240)]) en13 rfl (sendK hW _ ks_241 _ ho_243.sl hQ_244 (fun x_ hx_ => pr_250 _ ⟨x_, hx_, rfl⟩) pr_255 (by omega) (by first | decide | assumption | omega)) ?_
      rintro _ w_261 ⟨F_260, rfl, hS_262, hm_263, K_264⟩
      have pr_265 : ∀ q_, F_260 q_ → ¬ G q_ := hm_263.apart (fun q_ h1 h2 => hRW q_ h2 h1) hR.own_lt
      have pr_266 : ¬ F_260 b_1 := hm_263.not pr_6 hb_4.lt
      have pr_267 : ∀ q_, F_260 q_ → ¬ own a_239 q_ := hm_263.apart (fun q_ h1 h2 => pr_250 q_ h2 h1) ho_243.own_lt
      have pr_268 : ∀ q_, F_260 q_ → ¬ mgsS ks_241 q_ := hm_263.apart (fun q_ h1 h2 => pr_255 q_ h2 h1) hQ_244.own_lt
      have pg_269 : ∀ q_, F_260 q_ → q_ < w.heap.size → (dS F G) q_ := hm_263.inS (fun q_ h_ _ => Or.inl h_) K0.size
      replace hR := hR.keepO K_264 hRW
      replace hb_4 := hb_4.keep K_264 pr_6
      replace ho_243 := ho_243.keepO K_264 pr_250
      replace hQ_244 := hQ_244.keepO K_264 pr_255
      replace K0 := K0.trans K_264 (fun x hlt hx => (fun q_ h_ _ => Or.inl h_) x hx hlt)
      clear hm_263
      refine RL.val (x_assignI rfl) ?_
      refine RL.nil ?_
      refine Run.seq ?_
      refine Run.region ?_
      refine RL.val (x_moveSl rfl) ?_
      refine RL.st rfl <| St1.call (vals := [.slice (a_239) ((ks_241.map Pk.c).length) (c_240)]) en12 rfl (spoilMsgs_ _ ks_241 _ _ ho_243 hQ_244 hap_248 (by omega)) ?_
      rintro _ w_270 ⟨rfl, K_271⟩
      have pr_272 : ∀ q_, spS a_239 ks_241 q_ → ¬ G q_ := fun q_ x_ z_ => (sp_case _ x_).elim (fun y_ => pr_251 q_ y_ z_) (fun y_ => (fun y_ => pr_256 q_ y_ z_) y_)
      have pr_273 : ¬ spS a_239 ks_241 b_1 := fun x_ => (sp_case _ x_).elim pr_252 (fun y_ => pr_257 y_)
      have pr_274 : ∀ q_, spS a_239 ks_241 q_ → ¬ F_260 q_ := fun q_ x_ z_ => (sp_case _ x_).elim (fun y_ => (fun q_ h1 h2 => pr_267 q_ h2 h1) q_ y_ z_) (fun y_ => (fun y_ => (fun q_ h1 h2 => pr_268 q_ h2 h1) q_ y_ z_) y_)
      have pg_275 : ∀ q_, spS a_239 ks_241 q_ → q_ < w.heap.size → (dS F G) q_ := fun q_ x_ hl_ => (sp_case _ x_).elim (fun y_ => pg_253 q_ y_ hl_) (fun y_ => (fun y_ => pg_258 q_ y_ hl_) y_)
      replace hR := hR.keepO K_271 (fun q_ h1 h2 => pr_272 q_ h2 h1)
      replace hb_4 := hb_4.keep K_271 pr_273
      replace hS_262 := hS_262.keepO K_271 (fun q_ h1 h2 => pr_274 q_ h2 h1)
      replace K0 := K0.trans K_271 (fun x hlt hx => pg_275 x hx hlt)
      refine RL.nil ?_
      refine Run.seq ?_
      refine Run.region ?_
      refine RL.val (x_moveI rfl) ?_
      refine RL.val (x_moveP rfl) ?_
      refine RL.val (x_fld (o' := 1) Tryz.underlying33 rfl ty31 rfl rfl rfl) ?_
      refine RL.val (litSl (m' := (ms.map Mg.c).length) (x_ld (v := .slice ((o).msgs.a) ((o).msgs.len) ((o).msgs.cap)) ty31 rfl rfl (hb_4.cl.field (i := 1) rfl)) hmn) ?_
      refine RL.st rfl <| St1.call (vals := [.pointer (some ⟨r, 0, none⟩), .slice ((o).msgs.a) ((ms.map Mg.c).length) ((o).msgs.cap)]) en17 rfl (sendRD r _ _ _ _ _ _ _ ms _ _ hR (hml0.ext (hE.new K0 hft)) (fun x hx hn hg => absurd (sl_lt hml0 hn ⟨x, hx, rfl⟩) (by have := hG0 _ hg; omega)) hms hml (by omega)) ?_
      rintro _ w_277 ⟨F_276, rfl, hS_278, hm_279, K_280⟩
      have pr_281 : ¬ F_276 b_1 := hm_279.not pr_7 hb_4.lt
      have pr_282 : ∀ q_, F_276 q_ → ¬ F_260 q_ := hm_279.apart (fun q_ h1 h2 => pr_265 q_ h2 h1) hS_262.own_lt
      have pg_283 : ∀ q_, F_276 q_ → q_ < w.heap.size → (dS F G) q_ := hm_279.inS (fun q_ h_ _ => Or.inr h_) K0.size
      replace hb_4 := hb_4.keep K_280 pr_7
      replace hS_262 := hS_262.keepO K_280 pr_265
      replace K0 := K0.trans K_280 (fun x hlt hx => (fun q_ h_ _ => Or.inr h_) x hx hlt)
      clear hm_279
      refine RL.val (litT (x_eqI rfl rfl) (by rw [hkv_245, hkl_ks_241]; simp)) ?_
      refine RL.val (x_assignB rfl) ?_
      refine RL.nil ?_
      refine Run.ret1 (v := .bool (true)) Tryz.func7 rfl rfl ?_
      rw [hkv_245, hkl_ks_241] at hS_262
      obtain ⟨hb1, hb2, hb3, hb4⟩ := sn_b (nodes := nodes) (id := id) (vs := ms.map Mg.v) hok0.len ms.length (by rw [List.length_map]; exact Nat.le_refl _)
      exact ⟨_, rfl, rfl, _, _, _, _, _, _, hS_262, hS_278, pg_269, pg_283, (fun q_ h1 h2 => pr_282 q_ h2 h1), by omega, by omega, K0⟩
    · try simp only [br] at hc18
      refine Run.seq ?_
      refine Run.region ?_
      refine RL.val (x_eqI rfl rfl) ?_
      refine RL.val (x_assignB rfl) ?_
      refine RL.nil ?_
      refine Run.cond rfl (fun hc35 => ?_) (fun hc35 => ?_)
      · try simp only [br] at hc35
        refine Run.seq ?_
        refine Run.region ?_
        refine RL.val (x_moveP rfl) ?_
        refine RL.val (x_fld (o' := 2) Tryz.underlying33 rfl ty3 rfl rfl rfl) ?_
        refine RL.val (x_ld (v := .int .i64 ((o).a)) ty3 rfl rfl (hb_4.cl.field (i := 2) rfl)) ?_
        refine RL.st rfl <| St1.call (vals := [.pointer (some ⟨b, 0, none⟩), .int .i64 ((o).a)]) en14 rfl (takeX hW ((o).a)) ?_
        rintro _ w_288 ⟨V_284, hV_285, F_286, s_287, rfl, hS_289, hO_290, hA_291, hv_292, hin_293, hap_294, hm_295, K_296⟩
        have pr_298 : ∀ q_, ownS s_287 q_ → ¬ G q_ := fun q_ h_ => (fun q_ h1 h2 => hRW q_ h2 h1) q_ (hin_293 q_ h_)
        have pr_299 : ¬ ownS s_287 b_1 := fun h_ => pr_6 (hin_293 _ h_)
        have pr_300 : ∀ q_, F_286 q_ → ¬ G q_ := hm_295.apart (fun q_ h1 h2 => hRW q_ h2 h1) hR.own_lt
        have pr_301 : ¬ F_286 b_1 := hm_295.not pr_6 hb_4.lt
        have pg_302 : ∀ q_, F_286 q_ → q_ < w.heap.size → (dS F G) q_ := hm_295.inS (fun q_ h_ _ => Or.inl h_) K0.size
        replace hR := hR.keepO K_296 hRW
        replace hb_4 := hb_4.keep K_296 pr_6
        replace K0 := K0.trans K_296 (fun x hlt hx => (fun q_ h_ _ => Or.inl h_) x hx hlt)
        clear hm_295
        have pg_303 : ∀ q_, ownS s_287 q_ → q_ < w.heap.size → (dS F G) q_ := fun q_ h_ => (fun q_ h_ _ => Or.inl h_) q_ (hin_293 q_ h_)
        refine RL.val (x_moveT rfl) ?_
        refine RL.val (x_extract rfl rfl) ?_
        refine RL.val (x_extract rfl rfl) ?_
        refine RL.st rfl <| St1.alloc ty57 ?_
        intro b_304 w_305 hl_308 hb_307 K_306
        replace hb_307 : Blk w_305 b_304 [.int .i64 (0), .int .i64 (0), .int .i64 (0), .int .i64 (0), .string (⟨#[]⟩), .slice (none) (0) (0), .slice (none) (0) (0), .slice (none) (0) (0), .int .i64 (0), .int .i64 (0), .int .i64 (0), .int .i64 (0), .int .i64 (0), .int .i64 (0), .slice (none) (0) (0), .slice (none) (0) (0), .slice (none) (0) (0)] 57 := hb_307
        have ne_309 : b_1 < b_304 := Nat.lt_of_lt_of_le hb_4.lt hl_308
        have pr_310 : ¬ G b_304 := fun h => absurd (hR.own_lt _ h) (by omega)
        have pr_311 : ¬ F_286 b_304 := fun h => absurd (hS_289.own_lt _ h) (by omega)
        have pr_312 : ¬ ownS s_287 b_304 := fun h => absurd (hO_290.own_lt _ h) (by omega)
        have : w.heap.size ≤ b_304 := Nat.le_trans K0.size hl_308
        clear hl_308
        replace hR := hR.ext K_306
        replace hb_4 := hb_4.ext K_306
        replace hS_289 := hS_289.ext K_306
        replace hO_290 := hO_290.ext K_306
        replace K0 := K0.ext K_306
        refine RL.st rfl <| St1.store (v := .agg #[.int .i64 (((mkC V_284 s_287)).kind), .int .i64 (((mkC V_284 s_287)).frm), .int .i64 (((mkC V_284 s_287)).to), .int .i64 (((mkC V_284 s_287)).req), .string (((mkC V_284 s_287)).key), .slice (s_287.ea) (V_284.ent.length) (s_287.ec), .slice (s_287.ma) (V_284.mrk.length) (s_287.mc), .slice (s_287.ca) (V_284.cl.length) (s_287.cc), .int .i64 (((mkC V_284 s_287)).owner), .int .i64 (((mkC V_284 s_287)).part), .int .i64 (((mkC V_284 s_287)).n), .int .i64 ((((mkC V_284 s_287)).ring).parts), .int .i64 ((((mkC V_284 s_287)).ring).copies), .int .i64 ((((mkC V_284 s_287)).ring).spots), .slice (s_287.ba) (V_284.mem.length) (s_287.bc), .slice (s_287.pa) (V_284.pe.length) (s_287.pc), .slice (s_287.sa) (V_284.su.length) (s_287.sc)]) ty57 rfl rfl rfl (by simp [Value.cells, Value.oneCell']) hb_307 (by simp) ?_
        intro w_313 hb_307_ K_314
        have hb_307' : Blk w_313 b_304 [.int .i64 (((mkC V_284 s_287)).kind), .int .i64 (((mkC V_284 s_287)).frm), .int .i64 (((mkC V_284 s_287)).to), .int .i64 (((mkC V_284 s_287)).req), .string (((mkC V_284 s_287)).key), .slice (s_287.ea) (V_284.ent.length) (s_287.ec), .slice (s_287.ma) (V_284.mrk.length) (s_287.mc), .slice (s_287.ca) (V_284.cl.length) (s_287.cc), .int .i64 (((mkC V_284 s_287)).owner), .int .i64 (((mkC V_284 s_287)).part), .int .i64 (((mkC V_284 s_287)).n), .int .i64 ((((mkC V_284 s_287)).ring).parts), .int .i64 ((((mkC V_284 s_287)).ring).copies), .int .i64 ((((mkC V_284 s_287)).ring).spots), .slice (s_287.ba) (V_284.mem.length) (s_287.bc), .slice (s_287.pa) (V_284.pe.length) (s_287.pc), .slice (s_287.sa) (V_284.su.length) (s_287.sc)] 57 := hb_307_
        clear hb_307_
        replace hR := hR.keepO K_314 (fun q_ hq_ eq_ => pr_310 (by simp only [one] at eq_; rw [← eq_]; exact hq_))
        replace hb_4 := hb_4.keep K_314 (by simp only [one]; omega)
        replace hS_289 := hS_289.keepO K_314 (fun q_ hq_ eq_ => pr_311 (by simp only [one] at eq_; rw [← eq_]; exact hq_))
        replace hO_290 := hO_290.keepO K_314 (fun q_ hq_ eq_ => pr_312 (by simp only [one] at eq_; rw [← eq_]; exact hq_))
        replace K0 := K0.trans K_314 (fun x hlt hx => absurd hlt (by simp only [one] at hx; omega))
        replace hb_307 := hb_307'
        clear hb_307'
        refine RL.val (x_assignI rfl) ?_
        refine RL.nil ?_
        refine Run.seq ?_
        refine Run.region ?_
        refine RL.val (x_moveP rfl) ?_
        refine RL.val (x_fld (o' := 2) Tryz.underlying33 rfl ty3 rfl rfl rfl) ?_
        refine RL.val (x_ld (v := .int .i64 ((o).a)) ty3 rfl rfl (hb_4.cl.field (i := 2) rfl)) ?_
        refine RL.st rfl <| St1.call (vals := [.pointer (some ⟨r, 0, none⟩), .int .i64 ((o).a)]) en18 rfl (takeRD hR ((o).a)) ?_
        rintro _ w_317 ⟨F_315, s_316, rfl, hS_318, hrp_319, hm_320, K_321⟩
        have pr_322 : ¬ F_315 b_1 := hm_320.not pr_7 hb_4.lt
        have pr_323 : ∀ q_, F_315 q_ → ¬ F_286 q_ := hm_320.apart (fun q_ h1 h2 => pr_300 q_ h2 h1) hS_289.own_lt
        have pr_324 : ∀ q_, F_315 q_ → ¬ ownS s_287 q_ := hm_320.apart (fun q_ h1 h2 => pr_298 q_ h2 h1) hO_290.own_lt
        have pr_325 : ¬ F_315 b_304 := hm_320.not pr_310 hb_307.lt
        have pg_326 : ∀ q_, F_315 q_ → q_ < w.heap.size → (dS F G) q_ := hm_320.inS (fun q_ h_ _ => Or.inr h_) K0.size
        replace hb_4 := hb_4.keep K_321 pr_7
        replace hS_289 := hS_289.keepO K_321 pr_300
        replace hO_290 := hO_290.keepO K_321 pr_298
        replace hb_307 := hb_307.keep K_321 pr_310
        replace K0 := K0.trans K_321 (fun x hlt hx => (fun q_ h_ _ => Or.inr h_) x hx hlt)
        clear hm_320
        rw [hV_285] at hrp_319
        rw [hV_285]
        refine RL.val (x_moveT rfl) ?_
        refine RL.val (x_extract rfl rfl) ?_
        refine RL.val (x_extract rfl rfl) ?_
        refine RL.st rfl <| St1.alloc ty57 ?_
        intro b_327 w_328 hl_331 hb_330 K_329
        replace hb_330 : Blk w_328 b_327 [.int .i64 (0), .int .i64 (0), .int .i64 (0), .int .i64 (0), .string (⟨#[]⟩), .slice (none) (0) (0), .slice (none) (0) (0), .slice (none) (0) (0), .int .i64 (0), .int .i64 (0), .int .i64 (0), .int .i64 (0), .int .i64 (0), .int .i64 (0), .slice (none) (0) (0), .slice (none) (0) (0), .slice (none) (0) (0)] 57 := hb_330
        have ne_332 : b_1 < b_327 := Nat.lt_of_lt_of_le hb_4.lt hl_331
        have ne_333 : b_304 < b_327 := Nat.lt_of_lt_of_le hb_307.lt hl_331
        have pr_334 : ¬ F_286 b_327 := fun h => absurd (hS_289.own_lt _ h) (by omega)
        have pr_335 : ¬ ownS s_287 b_327 := fun h => absurd (hO_290.own_lt _ h) (by omega)
        have pr_336 : ¬ F_315 b_327 := fun h => absurd (hS_318.own_lt _ h) (by omega)
        have : w.heap.size ≤ b_327 := Nat.le_trans K0.size hl_331
        clear hl_331
        replace hb_4 := hb_4.ext K_329
        replace hS_289 := hS_289.ext K_329
        replace hO_290 := hO_290.ext K_329
        replace hb_307 := hb_307.ext K_329
        replace hS_318 := hS_318.ext K_329
        replace K0 := K0.ext K_329
        refine RL.st rfl <| St1.store (v := .agg #[.int .i64 (((mkC V_284 s_316)).kind), .int .i64 (((mkC V_284 s_316)).frm), .int .i64 (((mkC V_284 s_316)).to), .int .i64 (((mkC V_284 s_316)).req), .string (((mkC V_284 s_316)).key), .slice (s_316.ea) (V_284.ent.length) (s_316.ec), .slice (s_316.ma) (V_284.mrk.length) (s_316.mc), .slice (s_316.ca) (V_284.cl.length) (s_316.cc), .int .i64 (((mkC V_284 s_316)).owner), .int .i64 (((mkC V_284 s_316)).part), .int .i64 (((mkC V_284 s_316)).n), .int .i64 ((((mkC V_284 s_316)).ring).parts), .int .i64 ((((mkC V_284 s_316)).ring).copies), .int .i64 ((((mkC V_284 s_316)).ring).spots), .slice (s_316.ba) (V_284.mem.length) (s_316.bc), .slice (s_316.pa) (V_284.pe.length) (s_316.pc), .slice (s_316.sa) (V_284.su.length) (s_316.sc)]) ty57 rfl rfl rfl (by simp [Value.cells, Value.oneCell']) hb_330 (by simp) ?_
        intro w_337 hb_330_ K_338
        have hb_330' : Blk w_337 b_327 [.int .i64 (((mkC V_284 s_316)).kind), .int .i64 (((mkC V_284 s_316)).frm), .int .i64 (((mkC V_284 s_316)).to), .int .i64 (((mkC V_284 s_316)).req), .string (((mkC V_284 s_316)).key), .slice (s_316.ea) (V_284.ent.length) (s_316.ec), .slice (s_316.ma) (V_284.mrk.length) (s_316.mc), .slice (s_316.ca) (V_284.cl.length) (s_316.cc), .int .i64 (((mkC V_284 s_316)).owner), .int .i64 (((mkC V_284 s_316)).part), .int .i64 (((mkC V_284 s_316)).n), .int .i64 ((((mkC V_284 s_316)).ring).parts), .int .i64 ((((mkC V_284 s_316)).ring).copies), .int .i64 ((((mkC V_284 s_316)).ring).spots), .slice (s_316.ba) (V_284.mem.length) (s_316.bc), .slice (s_316.pa) (V_284.pe.length) (s_316.pc), .slice (s_316.sa) (V_284.su.length) (s_316.sc)] 57 := hb_330_
        clear hb_330_
        replace hb_4 := hb_4.keep K_338 (by simp only [one]; omega)
        replace hS_289 := hS_289.keepO K_338 (fun q_ hq_ eq_ => pr_334 (by simp only [one] at eq_; rw [← eq_]; exact hq_))
        replace hO_290 := hO_290.keepO K_338 (fun q_ hq_ eq_ => pr_335 (by simp only [one] at eq_; rw [← eq_]; exact hq_))
        replace hb_307 := hb_307.keep K_338 (by simp only [one]; omega)
        replace hS_318 := hS_318.keepO K_338 (fun q_ hq_ eq_ => pr_336 (by simp only [one] at eq_; rw [← eq_]; exact hq_))
        replace K0 := K0.trans K_338 (fun x hlt hx => absurd hlt (by simp only [one] at hx; omega))
        replace hb_330 := hb_330'
        clear hb_330'
        refine RL.val (x_assignI rfl) ?_
        refine RL.nil ?_
        refine Run.seq ?_
        refine Run.region ?_
        refine RL.val (x_moveI rfl) ?_
        refine RL.val (x_moveI rfl) ?_
        refine RL.val (litT (x_eqI rfl rfl) (by simp)) ?_
        refine RL.val (x_moveB rfl) ?_
        refine RL.gst (wantedT1 rfl rfl rfl rfl) <| St1.val (x_lds (cs := #[.int .i64 (((mkC V_284 s_287)).kind), .int .i64 (((mkC V_284 s_287)).frm), .int .i64 (((mkC V_284 s_287)).to), .int .i64 (((mkC V_284 s_287)).req), .string (((mkC V_284 s_287)).key), .slice (s_287.ea) (V_284.ent.length) (s_287.ec), .slice (s_287.ma) (V_284.mrk.length) (s_287.mc), .slice (s_287.ca) (V_284.cl.length) (s_287.cc), .int .i64 (((mkC V_284 s_287)).owner), .int .i64 (((mkC V_284 s_287)).part), .int .i64 (((mkC V_284 s_287)).n), .int .i64 ((((mkC V_284 s_287)).ring).parts), .int .i64 ((((mkC V_284 s_287)).ring).copies), .int .i64 ((((mkC V_284 s_287)).ring).spots), .slice (s_287.ba) (V_284.mem.length) (s_287.bc), .slice (s_287.pa) (V_284.pe.length) (s_287.pc), .slice (s_287.sa) (V_284.su.length) (s_287.sc)]) ty57 rfl rfl (hb_307.cl.drop 0 17)) ?_
        refine RL.gst (wantedT1 rfl rfl rfl rfl) <| St1.val (x_lds (cs := #[.int .i64 (((mkC V_284 s_316)).kind), .int .i64 (((mkC V_284 s_316)).frm), .int .i64 (((mkC V_284 s_316)).to), .int .i64 (((mkC V_284 s_316)).req), .string (((mkC V_284 s_316)).key), .slice (s_316.ea) (V_284.ent.length) (s_316.ec), .slice (s_316.ma) (V_284.mrk.length) (s_316.mc), .slice (s_316.ca) (V_284.cl.length) (s_316.cc), .int .i64 (((mkC V_284 s_316)).owner), .int .i64 (((mkC V_284 s_316)).part), .int .i64 (((mkC V_284 s_316)).n), .int .i64 ((((mkC V_284 s_316)).ring).parts), .int .i64 ((((mkC V_284 s_316)).ring).copies), .int .i64 ((((mkC V_284 s_316)).ring).spots), .slice (s_316.ba) (V_284.mem.length) (s_316.bc), .slice (s_316.pa) (V_284.pe.length) (s_316.pc), .slice (s_316.sa) (V_284.su.length) (s_316.sc)]) ty57 rfl rfl (hb_330.cl.drop 0 17)) ?_
        refine RL.gst (wantedT1 rfl rfl rfl rfl) <| St1.call (vals := [.agg #[.int .i64 (((mkC V_284 s_287)).kind), .int .i64 (((mkC V_284 s_287)).frm), .int .i64 (((mkC V_284 s_287)).to), .int .i64 (((mkC V_284 s_287)).req), .string (((mkC V_284 s_287)).key), .slice (s_287.ea) (V_284.ent.length) (s_287.ec), .slice (s_287.ma) (V_284.mrk.length) (s_287.mc), .slice (s_287.ca) (V_284.cl.length) (s_287.cc), .int .i64 (((mkC V_284 s_287)).owner), .int .i64 (((mkC V_284 s_287)).part), .int .i64 (((mkC V_284 s_287)).n), .int .i64 ((((mkC V_284 s_287)).ring).parts), .int .i64 ((((mkC V_284 s_287)).ring).copies), .int .i64 ((((mkC V_284 s_287)).ring).spots), .slice (s_287.ba) (V_284.mem.length) (s_287.bc), .slice (s_287.pa) (V_284.pe.length) (s_287.pc), .slice (s_287.sa) (V_284.su.length) (s_287.sc)], .agg #[.int .i64 (((mkC V_284 s_316)).kind), .int .i64 (((mkC V_284 s_316)).frm), .int .i64 (((mkC V_284 s_316)).to), .int .i64 (((mkC V_284 s_316)).req), .string (((mkC V_284 s_316)).key), .slice (s_316.ea) (V_284.ent.length) (s_316.ec), .slice (s_316.ma) (V_284.mrk.length) (s_316.mc), .slice (s_316.ca) (V_284.cl.length) (s_316.cc), .int .i64 (((mkC V_284 s_316)).owner), .int .i64 (((mkC V_284 s_316)).part), .int .i64 (((mkC V_284 s_316)).n), .int .i64 ((((mkC V_284 s_316)).ring).parts), .int .i64 ((((mkC V_284 s_316)).ring).copies), .int .i64 ((((mkC V_284 s_316)).ring).spots), .slice (s_316.ba) (V_284.mem.length) (s_316.bc), .slice (s_316.pa) (V_284.pe.length) (s_316.pc), .slice (s_316.sa) (V_284.su.length) (s_316.sc)]]) en19 rfl (sameT (sameMsg_ V_284 V_284 s_287 s_316 _ hO_290.r (rp_six hRP hrp_319 (hE.new K0 hft)) hv_292)) ?_
        rintro _ w_339 ⟨rfl, K_340⟩
        replace hb_4 := hb_4.ext K_340
        replace hS_289 := hS_289.ext K_340
        replace hO_290 := hO_290.ext K_340
        replace hb_307 := hb_307.ext K_340
        replace hS_318 := hS_318.ext K_340
        replace hb_330 := hb_330.ext K_340
        replace K0 := K0.ext K_340
        refine RL.val (x_andT rfl rfl rfl) ?_
        refine RL.val (x_assignB rfl) ?_
        refine RL.nil ?_
        refine Run.seq ?_
        refine Run.region ?_
        refine RL.val (x_lds (cs := #[.int .i64 (((mkC V_284 s_287)).kind), .int .i64 (((mkC V_284 s_287)).frm), .int .i64 (((mkC V_284 s_287)).to), .int .i64 (((mkC V_284 s_287)).req), .string (((mkC V_284 s_287)).key), .slice (s_287.ea) (V_284.ent.length) (s_287.ec), .slice (s_287.ma) (V_284.mrk.length) (s_287.mc), .slice (s_287.ca) (V_284.cl.length) (s_287.cc), .int .i64 (((mkC V_284 s_287)).owner), .int .i64 (((mkC V_284 s_287)).part), .int .i64 (((mkC V_284 s_287)).n), .int .i64 ((((mkC V_284 s_287)).ring).parts), .int .i64 ((((mkC V_284 s_287)).ring).copies), .int .i64 ((((mkC V_284 s_287)).ring).spots), .slice (s_287.ba) (V_284.mem.length) (s_287.bc), .slice (s_287.pa) (V_284.pe.length) (s_287.pc), .slice (s_287.sa) (V_284.su.length) (s_287.sc)]) ty57 rfl rfl (hb_307.cl.drop 0 17)) ?_
        refine RL.st rfl <| St1.buildSlice ([(⟨((mkC V_284 s_287)).kind, ((mkC V_284 s_287)).frm, ((mkC V_284 s_287)).to, ((mkC V_284 s_287)).req, ((mkC V_284 s_287)).key, (⟨⟨s_287.ea, V_284.ent.length, s_287.ec⟩, (⟨⟨s_287.ma, V_284.mrk.length, s_287.mc⟩, ⟨s_287.ca, V_284.cl.length, s_287.cc⟩⟩ : CtxC)⟩ : CartC), ((mkC V_284 s_287)).owner, ((mkC V_284 s_287)).part, ((mkC V_284 s_287)).n, (⟨(((mkC V_284 s_287)).ring).parts, (((mkC V_284 s_287)).ring).copies, (((mkC V_284 s_287)).ring).spots, ⟨s_287.ba, V_284.mem.length, s_287.bc⟩⟩ : RingC), ⟨s_287.pa, V_284.pe.length, s_287.pc⟩, ⟨s_287.sa, V_284.su.length, s_287.sc⟩⟩ : MsgC)] : List MsgC) Tryz.underlying31 ty57 rfl rfl (by first | decide | (simp [Enc.size])) ?_
        intro b_341 w_342 hl_345 ho_344 K_343
        have pr_346 : ¬ own (some ⟨b_341, 0, none⟩) b_1 := notNew (ge_new hl_345) hb_4.lt
        have pr_347 : ∀ q_, own (some ⟨b_341, 0, none⟩) q_ → ¬ F_286 q_ := apartNew (ge_new hl_345) hS_289.own_lt
        have pr_348 : ∀ q_, own (some ⟨b_341, 0, none⟩) q_ → ¬ ownS s_287 q_ := apartNew (ge_new hl_345) hO_290.own_lt
        have pr_349 : ¬ own (some ⟨b_341, 0, none⟩) b_304 := notNew (ge_new hl_345) hb_307.lt
        have pr_350 : ∀ q_, own (some ⟨b_341, 0, none⟩) q_ → ¬ F_315 q_ := apartNew (ge_new hl_345) hS_318.own_lt
        have pr_351 : ¬ own (some ⟨b_341, 0, none⟩) b_327 := notNew (ge_new hl_345) hb_330.lt
        have pg_352 : ∀ q_, own (some ⟨b_341, 0, none⟩) q_ → q_ < w.heap.size → (dS F G) q_ := fun q_ h hlt => absurd (Nat.le_trans K0.size ((ge_new hl_345) q_ h)) (by omega)
        have pw_353 : ∀ q_, own (some ⟨b_341, 0, none⟩) q_ → w.heap.size ≤ q_ := fun q_ h => Nat.le_trans K0.size ((ge_new hl_345) q_ h)
        clear hl_345
        replace hb_4 := hb_4.ext K_343
        replace hS_289 := hS_289.ext K_343
        replace hO_290 := hO_290.ext K_343
        replace hb_307 := hb_307.ext K_343
        replace hS_318 := hS_318.ext K_343
        replace hb_330 := hb_330.ext K_343
        replace K0 := K0.ext K_343
        refine RL.st rfl <| St1.call (vals := [.slice (some ⟨b_341, 0, none⟩) (([(⟨((mkC V_284 s_287)).kind, ((mkC V_284 s_287)).frm, ((mkC V_284 s_287)).to, ((mkC V_284 s_287)).req, ((mkC V_284 s_287)).key, (⟨⟨s_287.ea, V_284.ent.length, s_287.ec⟩, (⟨⟨s_287.ma, V_284.mrk.length, s_287.mc⟩, ⟨s_287.ca, V_284.cl.length, s_287.cc⟩⟩ : CtxC)⟩ : CartC), ((mkC V_284 s_287)).owner, ((mkC V_284 s_287)).part, ((mkC V_284 s_287)).n, (⟨(((mkC V_284 s_287)).ring).parts, (((mkC V_284 s_287)).ring).copies, (((mkC V_284 s_287)).ring).spots, ⟨s_287.ba, V_284.mem.length, s_287.bc⟩⟩ : RingC), ⟨s_287.pa, V_284.pe.length, s_287.pc⟩, ⟨s_287.sa, V_284.su.length, s_287.sc⟩⟩ : MsgC)] : List MsgC).length) (([(⟨((mkC V_284 s_287)).kind, ((mkC V_284 s_287)).frm, ((mkC V_284 s_287)).to, ((mkC V_284 s_287)).req, ((mkC V_284 s_287)).key, (⟨⟨s_287.ea, V_284.ent.length, s_287.ec⟩, (⟨⟨s_287.ma, V_284.mrk.length, s_287.mc⟩, ⟨s_287.ca, V_284.cl.length, s_287.cc⟩⟩ : CtxC)⟩ : CartC), ((mkC V_284 s_287)).owner, ((mkC V_284 s_287)).part, ((mkC V_284 s_287)).n, (⟨(((mkC V_284 s_287)).ring).parts, (((mkC V_284 s_287)).ring).copies, (((mkC V_284 s_287)).ring).spots, ⟨s_287.ba, V_284.mem.length, s_287.bc⟩⟩ : RingC), ⟨s_287.pa, V_284.pe.length, s_287.pc⟩, ⟨s_287.sa, V_284.su.length, s_287.sc⟩⟩ : MsgC)] : List MsgC).length)]) en12 rfl (spoilMsgs_ _ [(⟨0, V_284, s_287⟩ : Pk)] _ _ (show OwnSl _ 57 _ _ ([(⟨0, V_284, s_287⟩ : Pk)].map Pk.c) from ho_344) (MgsAt.one hO_290 hA_291 hv_292) (fun q_ h_ => (fun q_ h1 h2 => pr_348 q_ h2 h1) q_ (mgs_one q_ h_)) (by simp)) ?_
        rintro _ w_354 ⟨rfl, K_355⟩
        have pr_356 : ¬ spS (some ⟨b_341, 0, none⟩) [(⟨0, V_284, s_287⟩ : Pk)] b_1 := fun x_ => (sp_one _ x_).elim pr_346 (fun y_ => pr_299 y_)
        have pr_357 : ∀ q_, spS (some ⟨b_341, 0, none⟩) [(⟨0, V_284, s_287⟩ : Pk)] q_ → ¬ F_286 q_ := fun q_ x_ z_ => (sp_one _ x_).elim (fun y_ => pr_347 q_ y_ z_) (fun y_ => (fun y_ => hap_294 q_ y_ z_) y_)
        have pr_358 : ¬ spS (some ⟨b_341, 0, none⟩) [(⟨0, V_284, s_287⟩ : Pk)] b_304 := fun x_ => (sp_one _ x_).elim pr_349 (fun y_ => pr_312 y_)
        have pr_359 : ∀ q_, spS (some ⟨b_341, 0, none⟩) [(⟨0, V_284, s_287⟩ : Pk)] q_ → ¬ F_315 q_ := fun q_ x_ z_ => (sp_one _ x_).elim (fun y_ => pr_350 q_ y_ z_) (fun y_ => (fun y_ => (fun q_ h1 h2 => pr_324 q_ h2 h1) q_ y_ z_) y_)
        have pr_360 : ¬ spS (some ⟨b_341, 0, none⟩) [(⟨0, V_284, s_287⟩ : Pk)] b_327 := fun x_ => (sp_one _ x_).elim pr_351 (fun y_ => pr_335 y_)
        have pg_361 : ∀ q_, spS (some ⟨b_341, 0, none⟩) [(⟨0, V_284, s_287⟩ : Pk)] q_ → q_ < w.heap.size → (dS F G) q_ := fun q_ x_ hl_ => (sp_one _ x_).elim (fun y_ => pg_352 q_ y_ hl_) (fun y_ => (fun y_ => pg_303 q_ y_ hl_) y_)
        replace hb_4 := hb_4.keep K_355 pr_356
        replace hS_289 := hS_289.keepO K_355 (fun q_ h1 h2 => pr_357 q_ h2 h1)
        replace hb_307 := hb_307.keep K_355 pr_358
        replace hS_318 := hS_318.keepO K_355 (fun q_ h1 h2 => pr_359 q_ h2 h1)
        replace hb_330 := hb_330.keep K_355 pr_360
        replace K0 := K0.trans K_355 (fun x hlt hx => pg_361 x hx hlt)
        refine RL.nil ?_
        refine Run.seq ?_
        refine Run.region ?_
        refine RL.val (x_moveB rfl) ?_
        refine RL.val (x_assignB rfl) ?_
        refine RL.nil ?_
        refine Run.ret1 (v := .bool (true)) Tryz.func7 rfl rfl ?_
        exact ⟨_, rfl, rfl, _, _, _, _, _, _, hS_289, hS_318, pg_302, pg_326, (fun q_ h1 h2 => pr_323 q_ h2 h1), by omega, by omega, K0⟩
      · try simp only [br] at hc35
        refine Run.seq ?_
        refine Run.region ?_
        refine RL.val (x_eqI rfl rfl) ?_
        refine RL.val (x_assignB rfl) ?_
        refine RL.nil ?_
        refine Run.cond rfl (fun hc63 => ?_) (fun hc63 => ?_)
        · try simp only [br] at hc63
          refine Run.seq ?_
          refine Run.drawT [] (m := 10) (by kernel_rfl) rfl ?_
          intro w_362 K_363
          replace hW := hW.ext K_363
          replace hR := hR.ext K_363
          replace hb_4 := hb_4.ext K_363
          replace K0 := K0.ext K_363
          refine ⟨fun w' => Blk w' b_1 [.int .i64 ((o).op), .slice ((o).msgs.a) ((o).msgs.len) ((o).msgs.cap), .int .i64 ((o).a), .int .i64 ((o).b)] 33 ∧ True, ?_⟩
          refine RT.takeP (v := .pointer (some ⟨b, 0, none⟩)) 0 rfl (by kernel_rfl) (.inr ⟨hb_4, trivial⟩) (fun _ => (x_moveP rfl)) ?_
          refine RT.takeP (v := .pointer (some ⟨b_1, 2, none⟩)) 1 rfl (by kernel_rfl) (.inr ⟨hb_4, trivial⟩) (fun _ => (x_fld (o' := 2) Tryz.underlying33 rfl ty3 rfl rfl rfl)) ?_
          refine RT.take (v := .int .i64 ((o).a)) 2 rfl (by kernel_rfl) ⟨hb_4, trivial⟩ (by rintro _ ⟨hb_4, -⟩; exact (x_ld (v := .int .i64 ((o).a)) ty3 rfl rfl (hb_4.cl.field (i := 2) rfl))) ?_
          refine RT.takeP (v := .pointer (some ⟨r, 0, none⟩)) 4 rfl (by kernel_rfl) (.inr ⟨hb_4, trivial⟩) (fun _ => (x_moveP rfl)) ?_
          refine RT.takeP (v := .pointer (some ⟨b_1, 2, none⟩)) 5 rfl (by kernel_rfl) (.inr ⟨hb_4, trivial⟩) (fun _ => (x_fld (o' := 2) Tryz.underlying33 rfl ty3 rfl rfl rfl)) ?_
          refine RT.take (v := .int .i64 ((o).a)) 6 rfl (by kernel_rfl) ⟨hb_4, trivial⟩ (by rintro _ ⟨hb_4, -⟩; exact (x_ld (v := .int .i64 ((o).a)) ty3 rfl rfl (hb_4.cl.field (i := 2) rfl))) ?_
          refine RT.st 3 rfl (by kernel_rfl) rfl <| St1.call (vals := [.pointer (some ⟨b, 0, none⟩), .int .i64 ((o).a)]) en20 rfl (loseD hW ((o).a)) ?_
          rintro _ w_365 ⟨F_364, rfl, hS_366, hm_367, K_368⟩
          have pr_369 : ∀ q_, F_364 q_ → ¬ G q_ := hm_367.apart (fun q_ h1 h2 => hRW q_ h2 h1) hR.own_lt
          have pr_370 : ¬ F_364 b_1 := hm_367.not pr_6 hb_4.lt
          have pg_371 : ∀ q_, F_364 q_ → q_ < w.heap.size → (dS F G) q_ := hm_367.inS (fun q_ h_ _ => Or.inl h_) K0.size
          replace hR := hR.keepO K_368 hRW
          replace hb_4 := hb_4.keep K_368 pr_6
          replace K0 := K0.trans K_368 (fun x hlt hx => (fun q_ h_ _ => Or.inl h_) x hx hlt)
          clear hm_367
          refine ⟨.inr ⟨hb_4, trivial⟩, ?_⟩
          refine RT.st 7 rfl (by kernel_rfl) rfl <| St1.call (vals := [.pointer (some ⟨r, 0, none⟩), .int .i64 ((o).a)]) en21 rfl (loseRD hR ((o).a)) ?_
          rintro _ w_373 ⟨F_372, rfl, hS_374, hm_375, K_376⟩
          have pr_377 : ¬ F_372 b_1 := hm_375.not pr_7 hb_4.lt
          have pr_378 : ∀ q_, F_372 q_ → ¬ F_364 q_ := hm_375.apart (fun q_ h1 h2 => pr_369 q_ h2 h1) hS_366.own_lt
          have pg_379 : ∀ q_, F_372 q_ → q_ < w.heap.size → (dS F G) q_ := hm_375.inS (fun q_ h_ _ => Or.inr h_) K0.size
          replace hb_4 := hb_4.keep K_376 pr_7
          replace hS_366 := hS_366.keepO K_376 pr_369
          replace K0 := K0.trans K_376 (fun x hlt hx => (fun q_ h_ _ => Or.inr h_) x hx hlt)
          clear hm_375
          refine ⟨.inr ⟨hb_4, trivial⟩, ?_⟩
          refine RT.takeP (v := .bool (true)) 8 rfl (by kernel_rfl) (.inr ⟨hb_4, trivial⟩) (fun _ => (litT (x_eqI rfl rfl) (by simp))) ?_
          refine RT.takeP (v := .bool (true)) 9 rfl (by kernel_rfl) (.inr ⟨hb_4, trivial⟩) (fun _ => (x_assignB rfl)) ?_
          refine RT.done (by kernel_rfl) ?_
          refine Run.ret1 (v := .bool (true)) Tryz.func7 rfl rfl ?_
          exact ⟨_, rfl, rfl, _, _, _, _, _, _, hS_366, hS_374, pg_371, pg_379, (fun q_ h1 h2 => pr_378 q_ h2 h1), by omega, by omega, K0⟩
        · try simp only [br] at hc63
          refine Run.seq ?_
          refine Run.region ?_
          refine RL.val (x_eqI rfl rfl) ?_
          refine RL.val (x_assignB rfl) ?_
          refine RL.nil ?_
          refine Run.cond rfl (fun hc74 => ?_) (fun hc74 => ?_)
          · try simp only [br] at hc74
            refine Run.seq ?_
            refine Run.drawT [] (m := 10) (by kernel_rfl) rfl ?_
            intro w_380 K_381
            replace hW := hW.ext K_381
            replace hR := hR.ext K_381
            replace hb_4 := hb_4.ext K_381
            replace K0 := K0.ext K_381
            refine ⟨fun w' => Blk w' b_1 [.int .i64 ((o).op), .slice ((o).msgs.a) ((o).msgs.len) ((o).msgs.cap), .int .i64 ((o).a), .int .i64 ((o).b)] 33 ∧ True, ?_⟩
            refine RT.takeP (v := .pointer (some ⟨b, 0, none⟩)) 0 rfl (by kernel_rfl) (.inr ⟨hb_4, trivial⟩) (fun _ => (x_moveP rfl)) ?_
            refine RT.takeP (v := .pointer (some ⟨b_1, 2, none⟩)) 1 rfl (by kernel_rfl) (.inr ⟨hb_4, trivial⟩) (fun _ => (x_fld (o' := 2) Tryz.underlying33 rfl ty3 rfl rfl rfl)) ?_
            refine RT.take (v := .int .i64 ((o).a)) 2 rfl (by kernel_rfl) ⟨hb_4, trivial⟩ (by rintro _ ⟨hb_4, -⟩; exact (x_ld (v := .int .i64 ((o).a)) ty3 rfl rfl (hb_4.cl.field (i := 2) rfl))) ?_
            refine RT.takeP (v := .pointer (some ⟨r, 0, none⟩)) 4 rfl (by kernel_rfl) (.inr ⟨hb_4, trivial⟩) (fun _ => (x_moveP rfl)) ?_
            refine RT.takeP (v := .pointer (some ⟨b_1, 2, none⟩)) 5 rfl (by kernel_rfl) (.inr ⟨hb_4, trivial⟩) (fun _ => (x_fld (o' := 2) Tryz.underlying33 rfl ty3 rfl rfl rfl)) ?_
            refine RT.take (v := .int .i64 ((o).a)) 6 rfl (by kernel_rfl) ⟨hb_4, trivial⟩ (by rintro _ ⟨hb_4, -⟩; exact (x_ld (v := .int .i64 ((o).a)) ty3 rfl rfl (hb_4.cl.field (i := 2) rfl))) ?_
            refine RT.st 3 rfl (by kernel_rfl) rfl <| St1.call (vals := [.pointer (some ⟨b, 0, none⟩), .int .i64 ((o).a)]) en22 rfl (twiceD hW ((o).a) (by first | decide | assumption | omega)) ?_
            rintro _ w_383 ⟨F_382, rfl, hS_384, hm_385, K_386⟩
            have pr_387 : ∀ q_, F_382 q_ → ¬ G q_ := hm_385.apart (fun q_ h1 h2 => hRW q_ h2 h1) hR.own_lt
            have pr_388 : ¬ F_382 b_1 := hm_385.not pr_6 hb_4.lt
            have pg_389 : ∀ q_, F_382 q_ → q_ < w.heap.size → (dS F G) q_ := hm_385.inS (fun q_ h_ _ => Or.inl h_) K0.size
            replace hR := hR.keepO K_386 hRW
            replace hb_4 := hb_4.keep K_386 pr_6
            replace K0 := K0.trans K_386 (fun x hlt hx => (fun q_ h_ _ => Or.inl h_) x hx hlt)
            clear hm_385
            refine ⟨.inr ⟨hb_4, trivial⟩, ?_⟩
            refine RT.st 7 rfl (by kernel_rfl) rfl <| St1.call (vals := [.pointer (some ⟨r, 0, none⟩), .int .i64 ((o).a)]) en23 rfl (twiceRD hR ((o).a) (by omega)) ?_
            rintro _ w_391 ⟨F_390, rfl, hS_392, hm_393, K_394⟩
            have pr_395 : ¬ F_390 b_1 := hm_393.not pr_7 hb_4.lt
            have pr_396 : ∀ q_, F_390 q_ → ¬ F_382 q_ := hm_393.apart (fun q_ h1 h2 => pr_387 q_ h2 h1) hS_384.own_lt
            have pg_397 : ∀ q_, F_390 q_ → q_ < w.heap.size → (dS F G) q_ := hm_393.inS (fun q_ h_ _ => Or.inr h_) K0.size
            replace hb_4 := hb_4.keep K_394 pr_7
            replace hS_384 := hS_384.keepO K_394 pr_387
            replace K0 := K0.trans K_394 (fun x hlt hx => (fun q_ h_ _ => Or.inr h_) x hx hlt)
            clear hm_393
            refine ⟨.inr ⟨hb_4, trivial⟩, ?_⟩
            refine RT.takeP (v := .bool (true)) 8 rfl (by kernel_rfl) (.inr ⟨hb_4, trivial⟩) (fun _ => (litT (x_eqI rfl rfl) (by simp))) ?_
            refine RT.takeP (v := .bool (true)) 9 rfl (by kernel_rfl) (.inr ⟨hb_4, trivial⟩) (fun _ => (x_assignB rfl)) ?_
            refine RT.done (by kernel_rfl) ?_
            refine Run.ret1 (v := .bool (true)) Tryz.func7 rfl rfl ?_
            have hb1 := twiceN_le id pv o.a
            exact ⟨_, rfl, rfl, _, _, _, _, _, _, hS_384, hS_392, pg_389, pg_397, (fun q_ h1 h2 => pr_396 q_ h2 h1), by omega, by omega, K0⟩
          · try simp only [br] at hc74
            refine Run.seq ?_
            refine Run.region ?_
            refine RL.val (x_eqI rfl rfl) ?_
            refine RL.val (x_assignB rfl) ?_
            refine RL.nil ?_
            refine Run.cond rfl (fun hc85 => ?_) (fun hc85 => ?_)
            · try simp only [br] at hc85
              refine Run.seq ?_
              refine Run.drawT [] (m := 14) (by kernel_rfl) rfl ?_
              intro w_398 K_399
              replace hW := hW.ext K_399
              replace hR := hR.ext K_399
              replace hb_4 := hb_4.ext K_399
              replace K0 := K0.ext K_399
              refine ⟨fun w' => Blk w' b_1 [.int .i64 ((o).op), .slice ((o).msgs.a) ((o).msgs.len) ((o).msgs.cap), .int .i64 ((o).a), .int .i64 ((o).b)] 33 ∧ True, ?_⟩
              refine RT.takeP (v := .pointer (some ⟨b, 0, none⟩)) 0 rfl (by kernel_rfl) (.inr ⟨hb_4, trivial⟩) (fun _ => (x_moveP rfl)) ?_
              refine RT.takeP (v := .pointer (some ⟨b_1, 2, none⟩)) 1 rfl (by kernel_rfl) (.inr ⟨hb_4, trivial⟩) (fun _ => (x_fld (o' := 2) Tryz.underlying33 rfl ty3 rfl rfl rfl)) ?_
              refine RT.take (v := .int .i64 ((o).a)) 2 rfl (by kernel_rfl) ⟨hb_4, trivial⟩ (by rintro _ ⟨hb_4, -⟩; exact (x_ld (v := .int .i64 ((o).a)) ty3 rfl rfl (hb_4.cl.field (i := 2) rfl))) ?_
              refine RT.takeP (v := .pointer (some ⟨b_1, 3, none⟩)) 3 rfl (by kernel_rfl) (.inr ⟨hb_4, trivial⟩) (fun _ => (x_fld (o' := 3) Tryz.underlying33 rfl ty3 rfl rfl rfl)) ?_
              refine RT.take (v := .int .i64 ((o).b)) 4 rfl (by kernel_rfl) ⟨hb_4, trivial⟩ (by rintro _ ⟨hb_4, -⟩; exact (x_ld (v := .int .i64 ((o).b)) ty3 rfl rfl (hb_4.cl.field (i := 3) rfl))) ?_
              refine RT.takeP (v := .pointer (some ⟨r, 0, none⟩)) 6 rfl (by kernel_rfl) (.inr ⟨hb_4, trivial⟩) (fun _ => (x_moveP rfl)) ?_
              refine RT.takeP (v := .pointer (some ⟨b_1, 2, none⟩)) 7 rfl (by kernel_rfl) (.inr ⟨hb_4, trivial⟩) (fun _ => (x_fld (o' := 2) Tryz.underlying33 rfl ty3 rfl rfl rfl)) ?_
              refine RT.take (v := .int .i64 ((o).a)) 8 rfl (by kernel_rfl) ⟨hb_4, trivial⟩ (by rintro _ ⟨hb_4, -⟩; exact (x_ld (v := .int .i64 ((o).a)) ty3 rfl rfl (hb_4.cl.field (i := 2) rfl))) ?_
              refine RT.takeP (v := .pointer (some ⟨b_1, 3, none⟩)) 9 rfl (by kernel_rfl) (.inr ⟨hb_4, trivial⟩) (fun _ => (x_fld (o' := 3) Tryz.underlying33 rfl ty3 rfl rfl rfl)) ?_
              refine RT.take (v := .int .i64 ((o).b)) 10 rfl (by kernel_rfl) ⟨hb_4, trivial⟩ (by rintro _ ⟨hb_4, -⟩; exact (x_ld (v := .int .i64 ((o).b)) ty3 rfl rfl (hb_4.cl.field (i := 3) rfl))) ?_
              refine RT.st 5 rfl (by kernel_rfl) rfl <| St1.call (vals := [.pointer (some ⟨b, 0, none⟩), .int .i64 ((o).a), .int .i64 ((o).b)]) en24 rfl (cutD hW ((o).a) ((o).b)) ?_
              rintro _ w_401 ⟨F_400, rfl, hS_402, hm_403, K_404⟩
              have pr_405 : ∀ q_, F_400 q_ → ¬ G q_ := hm_403.apart (fun q_ h1 h2 => hRW q_ h2 h1) hR.own_lt
              have pr_406 : ¬ F_400 b_1 := hm_403.not pr_6 hb_4.lt
              have pg_407 : ∀ q_, F_400 q_ → q_ < w.heap.size → (dS F G) q_ := hm_403.inS (fun q_ h_ _ => Or.inl h_) K0.size
              replace hR := hR.keepO K_404 hRW
              replace hb_4 := hb_4.keep K_404 pr_6
              replace K0 := K0.trans K_404 (fun x hlt hx => (fun q_ h_ _ => Or.inl h_) x hx hlt)
              clear hm_403
              refine ⟨.inr ⟨hb_4, trivial⟩, ?_⟩
              refine RT.st 11 rfl (by kernel_rfl) rfl <| St1.call (vals := [.pointer (some ⟨r, 0, none⟩), .int .i64 ((o).a), .int .i64 ((o).b)]) en25 rfl (cutRD hR ((o).a) ((o).b) (by omega)) ?_
              rintro _ w_409 ⟨F_408, rfl, hS_410, hm_411, K_412⟩
              have pr_413 : ¬ F_408 b_1 := hm_411.not pr_7 hb_4.lt
              have pr_414 : ∀ q_, F_408 q_ → ¬ F_400 q_ := hm_411.apart (fun q_ h1 h2 => pr_405 q_ h2 h1) hS_402.own_lt
              have pg_415 : ∀ q_, F_408 q_ → q_ < w.heap.size → (dS F G) q_ := hm_411.inS (fun q_ h_ _ => Or.inr h_) K0.size
              replace hb_4 := hb_4.keep K_412 pr_7
              replace hS_402 := hS_402.keepO K_412 pr_405
              replace K0 := K0.trans K_412 (fun x hlt hx => (fun q_ h_ _ => Or.inr h_) x hx hlt)
              clear hm_411
              refine ⟨.inr ⟨hb_4, trivial⟩, ?_⟩
              refine RT.takeP (v := .bool (true)) 12 rfl (by kernel_rfl) (.inr ⟨hb_4, trivial⟩) (fun _ => (litT (x_eqI rfl rfl) (by simp))) ?_
              refine RT.takeP (v := .bool (true)) 13 rfl (by kernel_rfl) (.inr ⟨hb_4, trivial⟩) (fun _ => (x_assignB rfl)) ?_
              refine RT.done (by kernel_rfl) ?_
              refine Run.ret1 (v := .bool (true)) Tryz.func7 rfl rfl ?_
              have hb2 := cutL_len (nodes := nodes) (cs := cs) o.a o.b
              exact ⟨_, rfl, rfl, _, _, _, _, _, _, hS_402, hS_410, pg_407, pg_415, (fun q_ h1 h2 => pr_414 q_ h2 h1), by omega, by omega, K0⟩
            · try simp only [br] at hc85
              refine Run.seq ?_
              refine Run.region ?_
              refine RL.val (x_eqI rfl rfl) ?_
              refine RL.val (x_assignB rfl) ?_
              refine RL.nil ?_
              refine Run.cond rfl (fun hc100 => ?_) (fun hc100 => ?_)
              · try simp only [br] at hc100
                refine Run.seq ?_
                refine Run.drawT [] (m := 14) (by kernel_rfl) rfl ?_
                intro w_416 K_417
                replace hW := hW.ext K_417
                replace hR := hR.ext K_417
                replace hb_4 := hb_4.ext K_417
                replace K0 := K0.ext K_417
                refine ⟨fun w' => Blk w' b_1 [.int .i64 ((o).op), .slice ((o).msgs.a) ((o).msgs.len) ((o).msgs.cap), .int .i64 ((o).a), .int .i64 ((o).b)] 33 ∧ True, ?_⟩
                refine RT.takeP (v := .pointer (some ⟨b, 0, none⟩)) 0 rfl (by kernel_rfl) (.inr ⟨hb_4, trivial⟩) (fun _ => (x_moveP rfl)) ?_
                refine RT.takeP (v := .pointer (some ⟨b_1, 2, none⟩)) 1 rfl (by kernel_rfl) (.inr ⟨hb_4, trivial⟩) (fun _ => (x_fld (o' := 2) Tryz.underlying33 rfl ty3 rfl rfl rfl)) ?_
                refine RT.take (v := .int .i64 ((o).a)) 2 rfl (by kernel_rfl) ⟨hb_4, trivial⟩ (by rintro _ ⟨hb_4, -⟩; exact (x_ld (v := .int .i64 ((o).a)) ty3 rfl rfl (hb_4.cl.field (i := 2) rfl))) ?_
                refine RT.takeP (v := .pointer (some ⟨b_1, 3, none⟩)) 3 rfl (by kernel_rfl) (.inr ⟨hb_4, trivial⟩) (fun _ => (x_fld (o' := 3) Tryz.underlying33 rfl ty3 rfl rfl rfl)) ?_
                refine RT.take (v := .int .i64 ((o).b)) 4 rfl (by kernel_rfl) ⟨hb_4, trivial⟩ (by rintro _ ⟨hb_4, -⟩; exact (x_ld (v := .int .i64 ((o).b)) ty3 rfl rfl (hb_4.cl.field (i := 3) rfl))) ?_
                refine RT.takeP (v := .pointer (some ⟨r, 0, none⟩)) 6 rfl (by kernel_rfl) (.inr ⟨hb_4, trivial⟩) (fun _ => (x_moveP rfl)) ?_
                refine RT.takeP (v := .pointer (some ⟨b_1, 2, none⟩)) 7 rfl (by kernel_rfl) (.inr ⟨hb_4, trivial⟩) (fun _ => (x_fld (o' := 2) Tryz.underlying33 rfl ty3 rfl rfl rfl)) ?_
                refine RT.take (v := .int .i64 ((o).a)) 8 rfl (by kernel_rfl) ⟨hb_4, trivial⟩ (by rintro _ ⟨hb_4, -⟩; exact (x_ld (v := .int .i64 ((o).a)) ty3 rfl rfl (hb_4.cl.field (i := 2) rfl))) ?_
                refine RT.takeP (v := .pointer (some ⟨b_1, 3, none⟩)) 9 rfl (by kernel_rfl) (.inr ⟨hb_4, trivial⟩) (fun _ => (x_fld (o' := 3) Tryz.underlying33 rfl ty3 rfl rfl rfl)) ?_
                refine RT.take (v := .int .i64 ((o).b)) 10 rfl (by kernel_rfl) ⟨hb_4, trivial⟩ (by rintro _ ⟨hb_4, -⟩; exact (x_ld (v := .int .i64 ((o).b)) ty3 rfl rfl (hb_4.cl.field (i := 3) rfl))) ?_
                refine RT.st 5 rfl (by kernel_rfl) rfl <| St1.call (vals := [.pointer (some ⟨b, 0, none⟩), .int .i64 ((o).a), .int .i64 ((o).b)]) en26 rfl (mendD hW ((o).a) ((o).b)) ?_
                rintro _ w_419 ⟨F_418, rfl, hS_420, hm_421, K_422⟩
                have pr_423 : ∀ q_, F_418 q_ → ¬ G q_ := hm_421.apart (fun q_ h1 h2 => hRW q_ h2 h1) hR.own_lt
                have pr_424 : ¬ F_418 b_1 := hm_421.not pr_6 hb_4.lt
                have pg_425 : ∀ q_, F_418 q_ → q_ < w.heap.size → (dS F G) q_ := hm_421.inS (fun q_ h_ _ => Or.inl h_) K0.size
                replace hR := hR.keepO K_422 hRW
                replace hb_4 := hb_4.keep K_422 pr_6
                replace K0 := K0.trans K_422 (fun x hlt hx => (fun q_ h_ _ => Or.inl h_) x hx hlt)
                clear hm_421
                refine ⟨.inr ⟨hb_4, trivial⟩, ?_⟩
                refine RT.st 11 rfl (by kernel_rfl) rfl <| St1.call (vals := [.pointer (some ⟨r, 0, none⟩), .int .i64 ((o).a), .int .i64 ((o).b)]) en27 rfl (mendRD hR ((o).a) ((o).b)) ?_
                rintro _ w_427 ⟨F_426, rfl, hS_428, hm_429, K_430⟩
                have pr_431 : ¬ F_426 b_1 := hm_429.not pr_7 hb_4.lt
                have pr_432 : ∀ q_, F_426 q_ → ¬ F_418 q_ := hm_429.apart (fun q_ h1 h2 => pr_423 q_ h2 h1) hS_420.own_lt
                have pg_433 : ∀ q_, F_426 q_ → q_ < w.heap.size → (dS F G) q_ := hm_429.inS (fun q_ h_ _ => Or.inr h_) K0.size
                replace hb_4 := hb_4.keep K_430 pr_7
                replace hS_420 := hS_420.keepO K_430 pr_423
                replace K0 := K0.trans K_430 (fun x hlt hx => (fun q_ h_ _ => Or.inr h_) x hx hlt)
                clear hm_429
                refine ⟨.inr ⟨hb_4, trivial⟩, ?_⟩
                refine RT.takeP (v := .bool (true)) 12 rfl (by kernel_rfl) (.inr ⟨hb_4, trivial⟩) (fun _ => (litT (x_eqI rfl rfl) (by simp))) ?_
                refine RT.takeP (v := .bool (true)) 13 rfl (by kernel_rfl) (.inr ⟨hb_4, trivial⟩) (fun _ => (x_assignB rfl)) ?_
                refine RT.done (by kernel_rfl) ?_
                refine Run.ret1 (v := .bool (true)) Tryz.func7 rfl rfl ?_
                have hb2 := mendL_len (nodes := nodes) (cs := cs) o.a o.b
                exact ⟨_, rfl, rfl, _, _, _, _, _, _, hS_420, hS_428, pg_425, pg_433, (fun q_ h1 h2 => pr_432 q_ h2 h1), by omega, by omega, K0⟩
              · try simp only [br] at hc100
                refine Run.seq ?_
                refine Run.region ?_
                refine RL.val (x_eqI rfl rfl) ?_
                refine RL.val (x_assignB rfl) ?_
                refine RL.nil ?_
                refine Run.cond rfl (fun hc115 => ?_) (fun hc115 => ?_)
                · try simp only [br] at hc115
                  refine Run.seq ?_
                  refine Run.drawT [] (m := 10) (by kernel_rfl) rfl ?_
                  intro w_434 K_435
                  replace hW := hW.ext K_435
                  replace hR := hR.ext K_435
                  replace hb_4 := hb_4.ext K_435
                  replace K0 := K0.ext K_435
                  refine ⟨fun w' => Blk w' b_1 [.int .i64 ((o).op), .slice ((o).msgs.a) ((o).msgs.len) ((o).msgs.cap), .int .i64 ((o).a), .int .i64 ((o).b)] 33 ∧ True, ?_⟩
                  refine RT.takeP (v := .pointer (some ⟨b, 0, none⟩)) 0 rfl (by kernel_rfl) (.inr ⟨hb_4, trivial⟩) (fun _ => (x_moveP rfl)) ?_
                  refine RT.takeP (v := .pointer (some ⟨b_1, 2, none⟩)) 1 rfl (by kernel_rfl) (.inr ⟨hb_4, trivial⟩) (fun _ => (x_fld (o' := 2) Tryz.underlying33 rfl ty3 rfl rfl rfl)) ?_
                  refine RT.take (v := .int .i64 ((o).a)) 2 rfl (by kernel_rfl) ⟨hb_4, trivial⟩ (by rintro _ ⟨hb_4, -⟩; exact (x_ld (v := .int .i64 ((o).a)) ty3 rfl rfl (hb_4.cl.field (i := 2) rfl))) ?_
                  refine RT.takeP (v := .pointer (some ⟨r, 0, none⟩)) 4 rfl (by kernel_rfl) (.inr ⟨hb_4, trivial⟩) (fun _ => (x_moveP rfl)) ?_
                  refine RT.takeP (v := .pointer (some ⟨b_1, 2, none⟩)) 5 rfl (by kernel_rfl) (.inr ⟨hb_4, trivial⟩) (fun _ => (x_fld (o' := 2) Tryz.underlying33 rfl ty3 rfl rfl rfl)) ?_
                  refine RT.take (v := .int .i64 ((o).a)) 6 rfl (by kernel_rfl) ⟨hb_4, trivial⟩ (by rintro _ ⟨hb_4, -⟩; exact (x_ld (v := .int .i64 ((o).a)) ty3 rfl rfl (hb_4.cl.field (i := 2) rfl))) ?_
                  refine RT.st 3 rfl (by kernel_rfl) rfl <| St1.call (vals := [.pointer (some ⟨b, 0, none⟩), .int .i64 ((o).a)]) en15 rfl (passD hW ((o).a)) ?_
                  rintro _ w_437 ⟨F_436, rfl, hS_438, hm_439, K_440⟩
                  have pr_441 : ∀ q_, F_436 q_ → ¬ G q_ := hm_439.apart (fun q_ h1 h2 => hRW q_ h2 h1) hR.own_lt
                  have pr_442 : ¬ F_436 b_1 := hm_439.not pr_6 hb_4.lt
                  have pg_443 : ∀ q_, F_436 q_ → q_ < w.heap.size → (dS F G) q_ := hm_439.inS (fun q_ h_ _ => Or.inl h_) K0.size
                  replace hR := hR.keepO K_440 hRW
                  replace hb_4 := hb_4.keep K_440 pr_6
                  replace K0 := K0.trans K_440 (fun x hlt hx => (fun q_ h_ _ => Or.inl h_) x hx hlt)
                  clear hm_439
                  refine ⟨.inr ⟨hb_4, trivial⟩, ?_⟩
                  refine RT.st 7 rfl (by kernel_rfl) rfl <| St1.call (vals := [.pointer (some ⟨r, 0, none⟩), .int .i64 ((o).a)]) en28 rfl (passRD hR ((o).a)) ?_
                  rintro _ w_445 ⟨F_444, rfl, hS_446, hm_447, K_448⟩
                  have pr_449 : ¬ F_444 b_1 := hm_447.not pr_7 hb_4.lt
                  have pr_450 : ∀ q_, F_444 q_ → ¬ F_436 q_ := hm_447.apart (fun q_ h1 h2 => pr_441 q_ h2 h1) hS_438.own_lt
                  have pg_451 : ∀ q_, F_444 q_ → q_ < w.heap.size → (dS F G) q_ := hm_447.inS (fun q_ h_ _ => Or.inr h_) K0.size
                  replace hb_4 := hb_4.keep K_448 pr_7
                  replace hS_438 := hS_438.keepO K_448 pr_441
                  replace K0 := K0.trans K_448 (fun x hlt hx => (fun q_ h_ _ => Or.inr h_) x hx hlt)
                  clear hm_447
                  refine ⟨.inr ⟨hb_4, trivial⟩, ?_⟩
                  refine RT.takeP (v := .bool (true)) 8 rfl (by kernel_rfl) (.inr ⟨hb_4, trivial⟩) (fun _ => (litT (x_eqI rfl rfl) (by simp))) ?_
                  refine RT.takeP (v := .bool (true)) 9 rfl (by kernel_rfl) (.inr ⟨hb_4, trivial⟩) (fun _ => (x_assignB rfl)) ?_
                  refine RT.done (by kernel_rfl) ?_
                  refine Run.ret1 (v := .bool (true)) Tryz.func7 rfl rfl ?_
                  exact ⟨_, rfl, rfl, _, _, _, _, _, _, hS_438, hS_446, pg_443, pg_451, (fun q_ h1 h2 => pr_450 q_ h2 h1), by omega, by omega, K0⟩
                · try simp only [br] at hc115
                  refine Run.skip ?_
                  refine Run.inBlock ?_
                  refine Run.seq ?_
                  refine Run.drawT [] (m := 10) (by kernel_rfl) rfl ?_
                  intro w_452 K_453
                  replace hW := hW.ext K_453
                  replace hR := hR.ext K_453
                  replace hb_4 := hb_4.ext K_453
                  replace K0 := K0.ext K_453
                  refine ⟨fun w' => Blk w' b_1 [.int .i64 ((o).op), .slice ((o).msgs.a) ((o).msgs.len) ((o).msgs.cap), .int .i64 ((o).a), .int .i64 ((o).b)] 33 ∧ True, ?_⟩
                  refine RT.takeP (v := .pointer (some ⟨b, 0, none⟩)) 0 rfl (by kernel_rfl) (.inr ⟨hb_4, trivial⟩) (fun _ => (x_moveP rfl)) ?_
                  refine RT.takeP (v := .pointer (some ⟨b_1, 2, none⟩)) 1 rfl (by kernel_rfl) (.inr ⟨hb_4, trivial⟩) (fun _ => (x_fld (o' := 2) Tryz.underlying33 rfl ty3 rfl rfl rfl)) ?_
                  refine RT.take (v := .int .i64 ((o).a)) 2 rfl (by kernel_rfl) ⟨hb_4, trivial⟩ (by rintro _ ⟨hb_4, -⟩; exact (x_ld (v := .int .i64 ((o).a)) ty3 rfl rfl (hb_4.cl.field (i := 2) rfl))) ?_
                  refine RT.takeP (v := .pointer (some ⟨r, 0, none⟩)) 4 rfl (by kernel_rfl) (.inr ⟨hb_4, trivial⟩) (fun _ => (x_moveP rfl)) ?_
                  refine RT.takeP (v := .pointer (some ⟨b_1, 2, none⟩)) 5 rfl (by kernel_rfl) (.inr ⟨hb_4, trivial⟩) (fun _ => (x_fld (o' := 2) Tryz.underlying33 rfl ty3 rfl rfl rfl)) ?_
                  refine RT.take (v := .int .i64 ((o).a)) 6 rfl (by kernel_rfl) ⟨hb_4, trivial⟩ (by rintro _ ⟨hb_4, -⟩; exact (x_ld (v := .int .i64 ((o).a)) ty3 rfl rfl (hb_4.cl.field (i := 2) rfl))) ?_
                  refine RT.st 3 rfl (by kernel_rfl) rfl <| St1.call (vals := [.pointer (some ⟨b, 0, none⟩), .int .i64 ((o).a)]) en29 rfl (forgetD hW ((o).a)) ?_
                  rintro _ w_455 ⟨F_454, rfl, hS_456, hm_457, K_458⟩
                  have pr_459 : ∀ q_, F_454 q_ → ¬ G q_ := hm_457.apart (fun q_ h1 h2 => hRW q_ h2 h1) hR.own_lt
                  have pr_460 : ¬ F_454 b_1 := hm_457.not pr_6 hb_4.lt
                  have pg_461 : ∀ q_, F_454 q_ → q_ < w.heap.size → (dS F G) q_ := hm_457.inS (fun q_ h_ _ => Or.inl h_) K0.size
                  replace hR := hR.keepO K_458 hRW
                  replace hb_4 := hb_4.keep K_458 pr_6
                  replace K0 := K0.trans K_458 (fun x hlt hx => (fun q_ h_ _ => Or.inl h_) x hx hlt)
                  clear hm_457
                  refine ⟨.inr ⟨hb_4, trivial⟩, ?_⟩
                  refine RT.st 7 rfl (by kernel_rfl) rfl <| St1.call (vals := [.pointer (some ⟨r, 0, none⟩), .int .i64 ((o).a)]) en30 rfl (forgetRD hR ((o).a)) ?_
                  rintro _ w_463 ⟨F_462, rfl, hS_464, hm_465, K_466⟩
                  have pr_467 : ¬ F_462 b_1 := hm_465.not pr_7 hb_4.lt
                  have pr_468 : ∀ q_, F_462 q_ → ¬ F_454 q_ := hm_465.apart (fun q_ h1 h2 => pr_459 q_ h2 h1) hS_456.own_lt
                  have pg_469 : ∀ q_, F_462 q_ → q_ < w.heap.size → (dS F G) q_ := hm_465.inS (fun q_ h_ _ => Or.inr h_) K0.size
                  replace hb_4 := hb_4.keep K_466 pr_7
                  replace hS_456 := hS_456.keepO K_466 pr_459
                  replace K0 := K0.trans K_466 (fun x hlt hx => (fun q_ h_ _ => Or.inr h_) x hx hlt)
                  clear hm_465
                  refine ⟨.inr ⟨hb_4, trivial⟩, ?_⟩
                  refine RT.takeP (v := .bool (true)) 8 rfl (by kernel_rfl) (.inr ⟨hb_4, trivial⟩) (fun _ => (litT (x_eqI rfl rfl) (by simp))) ?_
                  refine RT.takeP (v := .bool (true)) 9 rfl (by kernel_rfl) (.inr ⟨hb_4, trivial⟩) (fun _ => (x_assignB rfl)) ?_
                  refine RT.done (by kernel_rfl) ?_
                  refine Run.ret1 (v := .bool (true)) Tryz.func7 rfl rfl ?_
                  exact ⟨_, rfl, rfl, _, _, _, _, _, _, hS_456, hS_464, pg_461, pg_469, (fun q_ h1 h2 => pr_468 q_ h2 h1), by omega, by omega, K0⟩

end Go.Proofs.YtdlaoncjiolckaaGreat
