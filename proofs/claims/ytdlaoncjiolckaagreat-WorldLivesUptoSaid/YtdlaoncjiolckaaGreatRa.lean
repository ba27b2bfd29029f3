/-
  Layer 22's reference: what it has in memory; node, two, cut, find.
-/
import Derived.Test.YtdlaoncjiolckaaGreatRows
import Derived.Test.YtdlaoncjiolckaaGreatWl
namespace Go.Proofs.YtdlaoncjiolckaaGreat
attribute [local irreducible] St1 RL RA RT RT1 Run

/-- a cut link of the reference, and where it lies -/
structure CutR where
  a : Int
  b : Int
  sh : SH
def CutR.l (c : CutR) : LinkC := lk c.a c.b
def cutsS (cu : List CutR) : Nat → Prop := fun q => ∃ c ∈ cu, own c.sh.a q
structure CutsAt (w : World) (cu : List CutR) : Prop where
  all : ∀ c ∈ cu, c.sh.len = 2 ∧ SlOf w c.sh.a [c.a, c.b]
  lt : ∀ q, cutsS cu q → q < w.heap.size
section
variable {w w' : World} {S : Nat → Prop} {cu cv : List CutR} {ks : List Pk} {r : Nat} {aL aC : Option Addr} {cL cC : Nat} {nodes id now a b c d : Int} {i : Nat}
theorem own_of {x : Addr} (h : aL = some x) : own aL x.block := by rw [h, own_some]
theorem CutsAt.own_lt (h : CutsAt w cu) : ∀ q, cutsS cu q → q < w.heap.size := h.lt
theorem CutsAt.keepO (h : CutsAt w cu) (k : Keeps S w w') (hn : ∀ q, cutsS cu q → ¬ S q) : CutsAt w' cu :=
  ⟨fun c hc => ⟨(h.all c hc).1, (h.all c hc).2.keep k fun x hx => hn _ ⟨c, hc, own_of hx⟩⟩, fun q hq => Nat.lt_of_lt_of_le (h.lt q hq) k.size⟩
theorem CutsAt.ext (h : CutsAt w cu) (k : Ext w w') : CutsAt w' cu := h.keepO k fun _ _ => id
theorem CutsAt.nil (w : World) : CutsAt w [] := ⟨fun _ h => absurd h (by simp), fun _ ⟨_, h, _⟩ => absurd h (by simp)⟩
theorem CutsAt.sub (h : CutsAt w cu) (hs : ∀ c ∈ cv, c ∈ cu) : CutsAt w cv := ⟨fun c hc => h.all c (hs c hc), fun q ⟨c, hc, hq⟩ => h.lt q ⟨c, hs c hc, hq⟩⟩
theorem cuts_sub (hs : ∀ c ∈ cv, c ∈ cu) : ∀ q, cutsS cv q → cutsS cu q := fun q ⟨c, hc, hq⟩ => ⟨c, hs c hc, hq⟩
def rS (r : Nat) (aL aC : Option Addr) (cu : List CutR) : Nat → Prop := fun q => q = r ∨ (own aL q ∨ (own aC q ∨ cutsS cu q))
structure RefO (w : World) (r : Nat) (aL : Option Addr) (cL : Nat) (aC : Option Addr) (cC : Nat) (nodes id now : Int) (ks : List Pk) (cu : List CutR) : Prop where
  blk : Blk w r [.int .i64 nodes, .slice aL (ks.map Pk.k).length cL, .int .i64 id, .slice aC (cu.map CutR.sh).length cC, .int .i64 now] 39
  l : OwnSl w 59 aL cL (ks.map Pk.k)
  c : OwnSl w 75 aC cC (cu.map CutR.sh)
  u : CutsAt w cu
  n1 : ¬ own aL r
  n2 : ¬ own aC r
  n3 : ∀ q, own aC q → ¬ own aL q
  n4 : ¬ cutsS cu r
  n5 : ∀ q, cutsS cu q → ¬ own aL q
  n6 : ∀ q, cutsS cu q → ¬ own aC q
  ok : WOk nodes id now (ks.map Pk.p)
  cl : cu.length ≤ 1000000
theorem RefO.own_lt (h : RefO w r aL cL aC cC nodes id now ks cu) : ∀ q, rS r aL aC cu q → q < w.heap.size := by
  rintro q (rfl | hq | hq | hq)
  · exact h.blk.lt
  · exact h.l.own_lt q hq
  · exact h.c.own_lt q hq
  · exact h.u.lt q hq
theorem RefO.keepO (h : RefO w r aL cL aC cC nodes id now ks cu) (k : Keeps S w w') (hn : ∀ q, rS r aL aC cu q → ¬ S q) : RefO w' r aL cL aC cC nodes id now ks cu :=
  ⟨h.blk.keep k (hn _ (.inl rfl)), h.l.keepO k (fun q hq => hn q (.inr (.inl hq))), h.c.keepO k (fun q hq => hn q (.inr (.inr (.inl hq)))), h.u.keepO k (fun q hq => hn q (.inr (.inr (.inr hq)))), h.n1, h.n2, h.n3, h.n4, h.n5, h.n6, h.ok, h.cl⟩
theorem RefO.ext (h : RefO w r aL cL aC cC nodes id now ks cu) (k : Ext w w') : RefO w' r aL cL aC cC nodes id now ks cu := h.keepO k fun _ _ h => h
theorem lk_eq : lk c d = lk a b ↔ ((c = a ∧ d = b) ∨ (c = b ∧ d = a)) := by
  unfold lk
  rw [LinkC.mk.injEq]
  omega
theorem two_bne : ((nodeB nodes a && nodeB nodes b) && (a != b)) = twoB nodes a b := by
  unfold twoB
  congr 1
  rw [Bool.eq_iff_iff]
  simp
theorem cu_get {x : SH} (h : (cu.map CutR.sh)[i]? = some x) : ∃ c, cu[i]? = some c ∧ x = c.sh ∧ (cu.map CutR.l)[i]? = some c.l := by
  rw [List.getElem?_map, Option.map_eq_some_iff] at h
  obtain ⟨c, hc, rfl⟩ := h
  exact ⟨c, hc, rfl, by rw [List.getElem?_map, hc]; rfl⟩
theorem noId (h : ∀ j p, j < i → ks[j]? = some p → p.id ≠ a) (hl : ks.length ≤ i) : ∀ p ∈ ks, p.id ≠ a := fun p hp => by
  obtain ⟨j, hj, rfl⟩ := List.getElem_of_mem hp
  exact h j _ (by omega) (List.getElem?_eq_getElem hj)
theorem noCut {l : LinkC} (h : ∀ j c, j < i → cu[j]? = some c → c.l ≠ l) (hl : cu.length ≤ i) : l ∉ cu.map CutR.l := fun hm => by
  obtain ⟨c, hc, e⟩ := List.mem_map.1 hm
  obtain ⟨j, hj, rfl⟩ := List.getElem_of_mem hc
  exact h j _ (by omega) (List.getElem?_eq_getElem hj) e
theorem step_no {α : Type} {xs : List α} {x : α} {P : α → Prop} (h : ∀ j c, j < i → xs[j]? = some c → P c) (hx : xs[i]? = some x) (hp : P x) : ∀ j c, j < i + 1 → xs[j]? = some c → P c := fun j c hj hc => by
  rcases Nat.lt_succ_iff_lt_or_eq.1 hj with h1 | rfl
  · exact h j c h1 hc
  · rw [hx] at hc; obtain rfl := Option.some.inj hc; exact hp
end

theorem ty36 : Ty Tryz.prog 36 1 24 (.slice (none) (0) (0)) false := ty_of (by kernel_rfl) (by kernel_rfl)
theorem ty37 : Ty Tryz.prog 37 1 24 (.slice (none) (0) (0)) false := ty_of (by kernel_rfl) (by kernel_rfl)
theorem ty75 : Ty Tryz.prog 75 1 24 (.slice (none) (0) (0)) false := ty_of (by kernel_rfl) (by kernel_rfl)
theorem en59 : Enters Tryz.prog 59 := enters_of Tryz.func59 rfl (by kernel_rfl)

set_option maxRecDepth 100000 in
set_option maxHeartbeats 4000000 in
theorem nodeR (r : Nat) (aL : Option Addr) (cL : Nat) (aC : Option Addr) (cC : Nat) (nodes id now : Int) (ks : List Pk) (cu : List CutR) (n : Int) (w : World) (hD : RefO w r aL cL aC cC nodes id now ks cu) :
    Calls Tryz.prog 59 #[.pointer (some ⟨r, 0, none⟩), .int .i64 (n)] w (Ret (fun v w' => v = .bool (nodeB nodes n) ∧ Ext w w')) := by
  obtain ⟨hB, hL, hC, hU, hn1, hn2, hn3, hn4, hn5, hn6, hok, hcl⟩ := hD
  obtain ⟨hno1, hno2⟩ := hok.nodes
  obtain ⟨hnw1, hnw2⟩ := hok.now
  have hid0 := hok.id0
  have hl5 := hok.len
  rw [p_len] at hl5
  have hkl : (ks.map Pk.k).length = ks.length := List.length_map ..
  have hcul : (cu.map CutR.sh).length = cu.length := List.length_map ..
  refine calls_run (n := 15) Tryz.func59 rfl rfl rfl ?_
  refine Run.seq ?_
  refine Run.region ?_
  refine RL.val (x_assignB rfl) ?_
  refine RL.nil ?_
  refine Run.seq ?_
  refine Run.region ?_
  refine RL.val (x_moveI rfl) ?_
  refine RL.val (x_geI rfl rfl) ?_
  refine RL.val (x_moveB rfl) ?_
  refine RL.gval (wantedT rfl rfl rfl rfl) (fun hg => (x_moveI rfl)) ?_
  refine RL.gval (wantedT rfl rfl rfl rfl) (fun hg => (x_moveP rfl)) ?_
  refine RL.gval (wantedT rfl rfl rfl rfl) (fun hg => (x_nilCheck (gvr hg))) ?_
  refine RL.gval (wantedT rfl rfl rfl rfl) (fun hg => (x_fld (o' := 0) Tryz.underlying39 rfl ty3 rfl (gvr hg) rfl)) ?_
  refine RL.gval (wantedT rfl rfl rfl rfl) (fun hg => (x_ld (v := .int .i64 (nodes)) ty3 (gvr hg) rfl (hB.cl.field (i := 0) rfl))) ?_
  refine RL.gval (wantedT rfl rfl rfl rfl) (fun hg => (x_ltI (gvr hg) (gvr hg))) ?_
  refine RL.val (x_and rfl rfl rfl) ?_
  refine RL.val (x_assignB rfl) ?_
  refine RL.nil ?_
  refine Run.ret1 (v := .bool ((decide (0 ≤ n)) && (decide (n < nodes)))) Tryz.func59 rfl rfl ?_
  exact ⟨_, rfl, rfl, (Keeps.refl _ w)⟩

set_option maxRecDepth 100000 in
set_option maxHeartbeats 4000000 in
theorem twoR (r : Nat) (aL : Option Addr) (cL : Nat) (aC : Option Addr) (cC : Nat) (nodes id now : Int) (ks : List Pk) (cu : List CutR) (x y : Int) (w : World) (hD : RefO w r aL cL aC cC nodes id now ks cu) :
    Calls Tryz.prog 53 #[.pointer (some ⟨r, 0, none⟩), .int .i64 (x), .int .i64 (y)] w (Ret (fun v w' => v = .bool (twoB nodes x y) ∧ Ext w w')) := by
  obtain ⟨hB, hL, hC, hU, hn1, hn2, hn3, hn4, hn5, hn6, hok, hcl⟩ := hD
  obtain ⟨hno1, hno2⟩ := hok.nodes
  obtain ⟨hnw1, hnw2⟩ := hok.now
  have hid0 := hok.id0
  have hl5 := hok.len
  rw [p_len] at hl5
  have hkl : (ks.map Pk.k).length = ks.length := List.length_map ..
  have hcul : (cu.map CutR.sh).length = cu.length := List.length_map ..
  refine calls_run (n := 20) Tryz.func53 rfl rfl rfl ?_
  refine Run.seq ?_
  refine Run.region ?_
  refine RL.val (x_assignB rfl) ?_
  refine RL.nil ?_
  refine Run.seq ?_
  refine Run.region ?_
  refine RL.val (x_moveP rfl) ?_
  refine RL.val (x_moveI rfl) ?_
  refine RL.st rfl <| St1.call (vals := [.pointer (some ⟨r, 0, none⟩), .int .i64 (x)]) en59 rfl (nodeR r aL cL aC cC nodes id now ks cu x _ (⟨hB, hL, hC, hU, hn1, hn2, hn3, hn4, hn5, hn6, hok, hcl⟩ : RefO _ r aL cL aC cC nodes id now ks cu)) ?_
  rintro _ w_1 ⟨rfl, K_2⟩
  replace hB := hB.ext K_2
  replace hL := hL.ext K_2
  replace hC := hC.ext K_2
  replace hU := hU.ext K_2
  have K0 := (K_2 : Ext w _)
  refine RL.val (x_moveB rfl) ?_
  refine RL.gval (wantedT rfl rfl rfl rfl) (fun hg => (x_moveP rfl)) ?_
  refine RL.gval (wantedT rfl rfl rfl rfl) (fun hg => (x_moveI rfl)) ?_
  refine RL.gcall (vals := [.pointer (some ⟨r, 0, none⟩), .int .i64 (y)]) (wantedT rfl rfl rfl rfl) en59 (fun hg => (mcons (gvr hg) (mcons (gvr hg) mnil))) (fun hg => (nodeR r aL cL aC cC nodes id now ks cu y _ (⟨hB, hL, hC, hU, hn1, hn2, hn3, hn4, hn5, hn6, hok, hcl⟩ : RefO _ r aL cL aC cC nodes id now ks cu))) ?_
  intro w_3 K_4
  replace hB := hB.ext K_4
  replace hL := hL.ext K_4
  replace hC := hC.ext K_4
  replace hU := hU.ext K_4
  replace K0 := K0.ext K_4
  refine RL.val (x_and rfl rfl rfl) ?_
  refine RL.val (x_moveB rfl) ?_
  refine RL.gval (wantedT rfl rfl rfl rfl) (fun hg => (x_moveI rfl)) ?_
  refine RL.gval (wantedT rfl rfl rfl rfl) (fun hg => (x_moveI rfl)) ?_
  refine RL.gval (wantedT rfl rfl rfl rfl) (fun hg => (x_neI (gvr hg) (gvr hg))) ?_
  refine RL.val (x_and rfl rfl rfl) ?_
  refine RL.val (x_assignB rfl) ?_
  refine RL.nil ?_
  refine Run.ret1 (v := .bool (((nodeB nodes x) && (nodeB nodes y)) && (x != y))) Tryz.func53 rfl rfl ?_
  exact ⟨_, rfl, by rw [two_bne], K0⟩

set_option maxRecDepth 100000 in
set_option maxHeartbeats 4000000 in
theorem cutR (r : Nat) (aL : Option Addr) (cL : Nat) (aC : Option Addr) (cC : Nat) (nodes id now : Int) (ks : List Pk) (cu : List CutR) (x y : Int) (w : World) (hD : RefO w r aL cL aC cC nodes id now ks cu) :
    Calls Tryz.prog 54 #[.pointer (some ⟨r, 0, none⟩), .int .i64 (x), .int .i64 (y)] w (Ret (fun v w' => (∃ j c, cu[j]? = some c ∧ c.l = lk x y ∧ (∀ i c, i < j → cu[i]? = some c → c.l ≠ lk x y) ∧ v = .int .i64 ((j : Nat) : Int) ∧ Ext w w') ∨ (lk x y ∉ cu.map CutR.l ∧ v = .int .i64 (-1) ∧ Ext w w'))) := by
  obtain ⟨hB, hL, hC, hU, hn1, hn2, hn3, hn4, hn5, hn6, hok, hcl⟩ := hD
  obtain ⟨hno1, hno2⟩ := hok.nodes
  obtain ⟨hnw1, hnw2⟩ := hok.now
  have hid0 := hok.id0
  have hl5 := hok.len
  rw [p_len] at hl5
  have hkl : (ks.map Pk.k).length = ks.length := List.length_map ..
  have hcul : (cu.map CutR.sh).length = cu.length := List.length_map ..
  refine calls_run (n := 52) Tryz.func54 rfl rfl rfl ?_
  refine Run.seq ?_
  refine Run.region ?_
  refine RL.val (x_assignI rfl) ?_
  refine RL.nil ?_
  refine Run.seq ?_
  refine Run.seq ?_
  refine Run.region ?_
  refine RL.val (x_assignI rfl) ?_
  refine RL.nil ?_
  refine Run.block ?_
  refine Run.loop (ι := Nat) (fun i ρ' w' => Holds ρ' [(0, .pointer (some ⟨r, 0, none⟩)), (1, .int .i64 (x)), (2, .int .i64 (y)), (7, .int .i64 (((i : Nat) : Int)))] ∧ Ext w w' ∧ (Blk w' r [.int .i64 (nodes), .slice (aL) ((ks.map Pk.k).length) (cL), .int .i64 (id), .slice (aC) ((cu.map CutR.sh).length) (cC), .int .i64 (now)] 39) ∧ (OwnSl w' 59 (aL) (cL) (ks.map Pk.k)) ∧ (OwnSl w' 75 (aC) (cC) (cu.map CutR.sh)) ∧ (CutsAt w' cu) ∧ (i ≤ cu.length) ∧ (∀ j c, j < i → cu[j]? = some c → c.l ≠ lk x y)) (fun i => cu.length - i) 0 ?_ ?_
  · refine ⟨⟨rfl, rfl, rfl, rfl, trivial⟩, (Keeps.refl _ w), hB, hL, hC, hU, ?_, ?_⟩
    · omega
    · exact fun j c h => absurd h (Nat.not_lt_zero _)
  clear hB hL hC hU
  rintro i ρ_3 w_1 ⟨hH_2, K0, hB, hL, hC, hU, hi, hno⟩ ih1
  obtain ⟨ρ₀, rfl⟩ := hH_2.ex
  clear hH_2
  refine Run.seq ?_
  refine Run.seq ?_
  refine Run.region ?_
  refine RL.val (x_moveI rfl) ?_
  refine RL.val (x_moveP rfl) ?_
  refine RL.val (x_nilCheck rfl) ?_
  refine RL.val (x_fld (o' := 3) Tryz.underlying39 rfl ty37 rfl rfl rfl) ?_
  refine RL.val (x_ld (v := .slice (aC) ((cu.map CutR.sh).length) (cC)) ty37 rfl rfl (hB.cl.field (i := 3) rfl)) ?_
  refine RL.val (x_lenSl Tryz.underlying37 rfl) ?_
  refine RL.val (x_ltI rfl rfl) ?_
  refine RL.nil ?_
  refine Run.cond rfl (fun hc15 => ?_) (fun hc15 => ?_)
  · try simp only [br] at hc15
    refine Run.skip ?_
    refine Run.seq ?_
    refine Run.block ?_
    refine Run.seq ?_
    obtain ⟨x0, hx0⟩ : ∃ x, (cu.map CutR.sh)[i]? = some x := ⟨_, List.getElem?_eq_getElem (by omega)⟩
    obtain ⟨c, hc, hxe_, hcp⟩ := cu_get hx0
    subst hxe_
    have hcm := List.mem_of_getElem? hc
    refine Run.region ?_
    refine RL.val (x_moveP rfl) ?_
    refine RL.val (x_nilCheck rfl) ?_
    refine RL.val (x_fld (o' := 3) Tryz.underlying39 rfl ty37 rfl rfl rfl) ?_
    refine RL.val (x_ld (v := .slice (aC) ((cu.map CutR.sh).length) (cC)) ty37 rfl rfl (hB.cl.field (i := 3) rfl)) ?_
    refine RL.val (x_moveI rfl) ?_
    obtain ⟨b_4, o_5, x_8, hx_9, ha_6, hc_7⟩ := hC.sl.el (i := i) (by first | omega | (simp only [List.length_set]; omega))
    obtain rfl : c.sh = x_8 := Option.some.inj (hx0.symm.trans hx_9)
    refine RL.val (x_idxN Tryz.underlying37 ty75 rfl rfl ha_6 (by first | omega | (simp only [List.length_set]; omega))) ?_
    refine RL.val (litSl (m' := 2) (x_ldV (v := .slice (c.sh.a) (c.sh.len) (c.sh.cap)) (y := c.sh) ty75 rfl hc_7 rfl) (hU.all c hcm).1) ?_
    refine RL.val (x_assignSl rfl) ?_
    refine RL.nil ?_
    refine Run.seq ?_
    refine Run.region ?_
    refine RL.val (x_moveSl rfl) ?_
    obtain ⟨b_10, o_11, x_14, hx_15, ha_12, hc_13⟩ := (hU.all c hcm).2.el (i := 0) (by simp)
    obtain rfl : c.a = x_14 := Option.some.inj (rfl.symm.trans hx_15)
    refine RL.val (x_idxN Tryz.underlying75 ty3 rfl rfl ha_12 (by simp)) ?_
    refine RL.val (x_ldV (v := .int .i64 (c.a)) (y := c.a) ty3 rfl hc_13 rfl) ?_
    refine RL.val (x_moveI rfl) ?_
    refine RL.val (x_eqI rfl rfl) ?_
    refine RL.val (x_moveB rfl) ?_
    refine RL.gval (wantedT rfl rfl rfl rfl) (fun hg => (x_moveSl rfl)) ?_
    obtain ⟨b_16, o_17, x_20, hx_21, ha_18, hc_19⟩ := (hU.all c hcm).2.el (i := 1) (by simp)
    obtain rfl : c.b = x_20 := Option.some.inj (rfl.symm.trans hx_21)
    refine RL.gval (wantedT rfl rfl rfl rfl) (fun hg => (x_idxN Tryz.underlying75 ty3 (gvr hg) rfl ha_18 (by simp))) ?_
    refine RL.gval (wantedT rfl rfl rfl rfl) (fun hg => (x_ldV (v := .int .i64 (c.b)) (y := c.b) ty3 (gvr hg) hc_19 rfl)) ?_
    refine RL.gval (wantedT rfl rfl rfl rfl) (fun hg => (x_moveI rfl)) ?_
    refine RL.gval (wantedT rfl rfl rfl rfl) (fun hg => (x_eqI (gvr hg) (gvr hg))) ?_
    refine RL.val (x_and rfl rfl rfl) ?_
    refine RL.val (x_moveB rfl) ?_
    refine RL.gval (wantedF rfl rfl rfl rfl) (fun hg => (x_moveSl rfl)) ?_
    obtain ⟨b_22, o_23, x_26, hx_27, ha_24, hc_25⟩ := (hU.all c hcm).2.el (i := 0) (by simp)
    obtain rfl : c.a = x_26 := Option.some.inj (rfl.symm.trans hx_27)
    refine RL.gval (wantedF rfl rfl rfl rfl) (fun hg => (x_idxN Tryz.underlying75 ty3 (gvr hg) rfl ha_24 (by simp))) ?_
    refine RL.gval (wantedF rfl rfl rfl rfl) (fun hg => (x_ldV (v := .int .i64 (c.a)) (y := c.a) ty3 (gvr hg) hc_25 rfl)) ?_
    refine RL.gval (wantedF rfl rfl rfl rfl) (fun hg => (x_moveI rfl)) ?_
    refine RL.gval (wantedF rfl rfl rfl rfl) (fun hg => (x_eqI (gvr hg) (gvr hg))) ?_
    refine RL.gval (wantedF rfl rfl rfl rfl) (fun hg => (x_moveB (gvr hg))) ?_
    refine RL.gval (wantedGT rfl rfl rfl rfl) (fun hg => (x_moveSl rfl)) ?_
    obtain ⟨b_28, o_29, x_32, hx_33, ha_30, hc_31⟩ := (hU.all c hcm).2.el (i := 1) (by simp)
    obtain rfl : c.b = x_32 := Option.some.inj (rfl.symm.trans hx_33)
    refine RL.gval (wantedGT rfl rfl rfl rfl) (fun hg => (x_idxN Tryz.underlying75 ty3 (gvr hg) rfl ha_30 (by simp))) ?_
    refine RL.gval (wantedGT rfl rfl rfl rfl) (fun hg => (x_ldV (v := .int .i64 (c.b)) (y := c.b) ty3 (gvr hg) hc_31 rfl)) ?_
    refine RL.gval (wantedGT rfl rfl rfl rfl) (fun hg => (x_moveI rfl)) ?_
    refine RL.gval (wantedGT rfl rfl rfl rfl) (fun hg => (x_eqI (gvr hg) (gvr hg))) ?_
    refine RL.gval (wantedF rfl rfl rfl rfl) (fun hg => (x_andG hg rfl rfl rfl)) ?_
    refine RL.val (x_or rfl rfl rfl) ?_
    refine RL.nil ?_
    refine Run.cond rfl (fun hc50 => ?_) (fun hc50 => ?_)
    · try simp only [br] at hc50
      refine Run.seq ?_
      refine Run.region ?_
      refine RL.val (x_moveI rfl) ?_
      refine RL.val (x_assignI rfl) ?_
      refine RL.nil ?_
      refine Run.ret1 (v := .int .i64 (((i : Nat) : Int))) Tryz.func54 rfl rfl ?_
      exact ⟨_, rfl, .inl ⟨i, c, hc, lk_eq.2 (by simpa using hc50), hno, rfl, K0⟩⟩
    · try simp only [br] at hc50
      refine Run.skip ?_
      refine Run.inBlock ?_
      refine Run.region ?_
      refine RL.val (x_moveI rfl) ?_
      refine RL.val (litI (c := ((i + 1 : Nat) : Int)) (x_add rfl rfl (by omega) (by omega)) rfl) ?_
      refine RL.val (x_assignI rfl) ?_
      refine RL.nil ?_
      refine ih1 (i + 1) _ _ ?_ (by omega)
      refine ⟨⟨rfl, rfl, rfl, rfl, trivial⟩, K0, hB, hL, hC, hU, ?_, ?_⟩
      · omega
      · exact step_no hno hc (fun e => by have h_ : (c.a = x ∧ c.b = y) ∨ (c.a = y ∧ c.b = x) := lk_eq.1 e; omega)
  · try simp only [br] at hc15
    refine Run.exit rfl ?_
    refine Run.seq ?_
    refine Run.region ?_
    refine RL.val (x_assignI rfl) ?_
    refine RL.nil ?_
    refine Run.ret1 (v := .int .i64 (-1)) Tryz.func54 rfl rfl ?_
    exact ⟨_, rfl, .inr ⟨noCut hno (by omega), rfl, K0⟩⟩

set_option maxRecDepth 100000 in
set_option maxHeartbeats 4000000 in
theorem findR (r : Nat) (aL : Option Addr) (cL : Nat) (aC : Option Addr) (cC : Nat) (nodes id now : Int) (ks : List Pk) (cu : List CutR) (i : Int) (w : World) (hD : RefO w r aL cL aC cC nodes id now ks cu) :
    Calls Tryz.prog 45 #[.pointer (some ⟨r, 0, none⟩), .int .i64 (i)] w (Ret (fun v w' => (∃ j p, ks[j]? = some p ∧ p.id = i ∧ v = .int .i64 ((j : Nat) : Int) ∧ Ext w w') ∨ ((¬ ∃ p ∈ ks, p.id = i) ∧ v = .int .i64 (-1) ∧ Ext w w'))) := by
  obtain ⟨hB, hL, hC, hU, hn1, hn2, hn3, hn4, hn5, hn6, hok, hcl⟩ := hD
  obtain ⟨hno1, hno2⟩ := hok.nodes
  obtain ⟨hnw1, hnw2⟩ := hok.now
  have hid0 := hok.id0
  have hl5 := hok.len
  rw [p_len] at hl5
  have hkl : (ks.map Pk.k).length = ks.length := List.length_map ..
  have hcul : (cu.map CutR.sh).length = cu.length := List.length_map ..
  refine calls_run (n := 26) Tryz.func45 rfl rfl rfl ?_
  refine Run.seq ?_
  refine Run.region ?_
  refine RL.val (x_assignI rfl) ?_
  refine RL.nil ?_
  refine Run.seq ?_
  refine Run.seq ?_
  refine Run.region ?_
  refine RL.val (x_assignI rfl) ?_
  refine RL.nil ?_
  refine Run.block ?_
  refine Run.loop (ι := Nat) (fun k ρ' w' => Holds ρ' [(0, .pointer (some ⟨r, 0, none⟩)), (1, .int .i64 (i)), (5, .int .i64 (((k : Nat) : Int)))] ∧ Ext w w' ∧ (Blk w' r [.int .i64 (nodes), .slice (aL) ((ks.map Pk.k).length) (cL), .int .i64 (id), .slice (aC) ((cu.map CutR.sh).length) (cC), .int .i64 (now)] 39) ∧ (OwnSl w' 59 (aL) (cL) (ks.map Pk.k)) ∧ (OwnSl w' 75 (aC) (cC) (cu.map CutR.sh)) ∧ (CutsAt w' cu) ∧ (k ≤ ks.length) ∧ (∀ j p, j < k → ks[j]? = some p → p.id ≠ i)) (fun k => ks.length - k) 0 ?_ ?_
  · refine ⟨⟨rfl, rfl, rfl, trivial⟩, (Keeps.refl _ w), hB, hL, hC, hU, ?_, ?_⟩
    · omega
    · exact fun j c h => absurd h (Nat.not_lt_zero _)
  clear hB hL hC hU
  rintro k ρ_3 w_1 ⟨hH_2, K0, hB, hL, hC, hU, hk, hno⟩ ih1
  obtain ⟨ρ₀, rfl⟩ := hH_2.ex
  clear hH_2
  refine Run.seq ?_
  refine Run.seq ?_
  refine Run.region ?_
  refine RL.val (x_moveI rfl) ?_
  refine RL.val (x_moveP rfl) ?_
  refine RL.val (x_nilCheck rfl) ?_
  refine RL.val (x_fld (o' := 1) Tryz.underlying39 rfl ty36 rfl rfl rfl) ?_
  refine RL.val (x_ld (v := .slice (aL) ((ks.map Pk.k).length) (cL)) ty36 rfl rfl (hB.cl.field (i := 1) rfl)) ?_
  refine RL.val (x_lenSl Tryz.underlying36 rfl) ?_
  refine RL.val (x_ltI rfl rfl) ?_
  refine RL.nil ?_
  refine Run.cond rfl (fun hc12 => ?_) (fun hc12 => ?_)
  · try simp only [br] at hc12
    refine Run.skip ?_
    refine Run.seq ?_
    refine Run.block ?_
    refine Run.seq ?_
    obtain ⟨x0, hx0⟩ : ∃ x, (ks.map Pk.k)[k]? = some x := ⟨_, List.getElem?_eq_getElem (by omega)⟩
    obtain ⟨p, hp, hxe_, hpp⟩ := pk_get hx0
    subst hxe_
    refine Run.region ?_
    refine RL.val (x_moveP rfl) ?_
    refine RL.val (x_nilCheck rfl) ?_
    refine RL.val (x_fld (o' := 1) Tryz.underlying39 rfl ty36 rfl rfl rfl) ?_
    refine RL.val (x_ld (v := .slice (aL) ((ks.map Pk.k).length) (cL)) ty36 rfl rfl (hB.cl.field (i := 1) rfl)) ?_
    refine RL.val (x_moveI rfl) ?_
    obtain ⟨b_4, o_5, x_8, hx_9, ha_6, hc_7⟩ := hL.sl.el (i := k) (by first | omega | (simp only [List.length_set]; omega))
    obtain rfl : (kC p.id p.v p.s) = x_8 := Option.some.inj (hx0.symm.trans hx_9)
    refine RL.val (x_idxN Tryz.underlying36 ty59 rfl rfl ha_6 (by first | omega | (simp only [List.length_set]; omega))) ?_
    refine RL.val (x_fld (o' := o_5 + k * 18 + 0) Tryz.underlying59 rfl ty3 rfl rfl rfl) ?_
    refine RL.val (litI (c := p.id) (x_ld ty3 rfl rfl (hc_7.field (i := 0) rfl)) rfl) ?_
    refine RL.val (x_moveI rfl) ?_
    refine RL.val (x_eqI rfl rfl) ?_
    refine RL.nil ?_
    refine Run.cond rfl (fun hc24 => ?_) (fun hc24 => ?_)
    · try simp only [br] at hc24
      refine Run.seq ?_
      refine Run.region ?_
      refine RL.val (x_moveI rfl) ?_
      refine RL.val (x_assignI rfl) ?_
      refine RL.nil ?_
      refine Run.ret1 (v := .int .i64 (((k : Nat) : Int))) Tryz.func45 rfl rfl ?_
      exact ⟨_, rfl, .inl ⟨k, p, hp, by simpa using hc24, rfl, K0⟩⟩
    · try simp only [br] at hc24
      refine Run.skip ?_
      refine Run.inBlock ?_
      refine Run.region ?_
      refine RL.val (x_moveI rfl) ?_
      refine RL.val (litI (c := ((k + 1 : Nat) : Int)) (x_add rfl rfl (by omega) (by omega)) rfl) ?_
      refine RL.val (x_assignI rfl) ?_
      refine RL.nil ?_
      refine ih1 (k + 1) _ _ ?_ (by omega)
      refine ⟨⟨rfl, rfl, rfl, trivial⟩, K0, hB, hL, hC, hU, ?_, ?_⟩
      · omega
      · exact step_no hno hp (by simpa using hc24)
  · try simp only [br] at hc12
    refine Run.exit rfl ?_
    refine Run.seq ?_
    refine Run.region ?_
    refine RL.val (x_assignI rfl) ?_
    refine RL.nil ?_
    refine Run.ret1 (v := .int .i64 (-1)) Tryz.func45 rfl rfl ?_
    exact ⟨_, rfl, .inr ⟨fun ⟨p, hp, e⟩ => noId hno (by omega) p hp e, rfl, K0⟩⟩

end Go.Proofs.YtdlaoncjiolckaaGreat
