/-
  Layer 12's walks.
-/
import Derived.Test.YtagfdmdajmkddaaRows
import Derived.Test.YtagfdmdajmkddaaLa
namespace Go.Proofs.Ytagfdmdajmkddaa
attribute [local irreducible] St1 RL RA RT RT1 Run

open Sa
theorem passT_ok {T : Tab} {t : Int} (h : TabOk T) (ht : t ≤ 9223372036854775807) : TabOk (passT T t) :=
  ⟨h.len, h.self0, by have := h.now0; simp only [passT]; omega, fun n k hk => by have := h.known n k hk; simp only [passT]; exact ⟨this.1, by omega, this.2.2⟩,
    fun p hp => by have := h.pings p hp; simp only [passT]; omega, h.req0, by have := h.last0; simp only [passT]; omega⟩
theorem statusL_at {l : List KnownM} {n : Int} {k : KnownM} (h : 0 ≤ n ∧ n < 8) (hk : l[n.toNat]? = some k) : statusL l n = k.peer.status := by
  rw [statusL, if_neg (by omega), hk]; rfl
theorem statusL_no {l : List KnownM} {n : Int} (h : n < 0 ∨ 8 ≤ n) : statusL l n = 0 := by rw [statusL, if_pos h]
theorem peersL_snoc {l : List KnownM} {i : Nat} {x : KnownM} (h : l[i]? = some x) : peersL (l.take (i + 1)) = if x.peer.status = 0 then peersL (l.take i) else peersL (l.take i) ++ [x.peer] := by
  obtain ⟨hi, rfl⟩ := List.getElem?_eq_some_iff.1 h
  rw [List.take_succ_eq_append_getElem hi, peersL, List.filter_append, List.map_append, peersL]
  split
  · rename_i h0; simp [h0]
  · rename_i h0; simp [h0]
theorem peersL_len (l : List KnownM) : (peersL l).length ≤ l.length := by rw [peersL, List.length_map]; exact List.length_filter_le _ _

theorem newT_ok {n : Int} (h : 0 ≤ n ∧ n < 8) : TabOk (newT n) := by
  refine ⟨by simp [newT], h, by simp [newT], ?_, by simp [newT], by simp [newT], by simp [newT]⟩
  intro j k hk
  simp only [newT] at hk
  rw [List.getElem?_set] at hk
  split at hk
  · rename_i hj
    split at hk
    · cases hk
      refine ⟨by simp [zk], by simp [zk, newT], fun _ => ?_⟩
      simp only
      omega
    · cases hk
  · rw [List.getElem?_replicate] at hk
    split at hk
    · cases hk; exact ⟨by simp [zk], by simp [zk, newT], fun h => absurd rfl h⟩
    · cases hk
theorem rep_get {i : Nat} (h : i < 8) : (List.replicate 8 zk)[i]? = some zk := by rw [List.getElem?_replicate, if_pos h]
theorem get_self {T : Tab} (h : TabOk T) : ∃ k, T.l[T.self.toNat]? = some k := ⟨_, List.getElem?_eq_getElem (by have := h.len; have := h.self0; omega)⟩
theorem learnT_ok {T : Tab} {p : Peer} (h : TabOk T) (hp : 0 ≤ p.node ∧ p.node < 8) : TabOk (learnT T p) := by
  refine ⟨by simp only [learnT, List.length_set]; exact h.len, h.self0, h.now0, ?_, h.pings, h.req0, h.last0⟩
  intro j k hk
  simp only [learnT] at hk ⊢
  rw [List.getElem?_set] at hk
  split at hk
  · rename_i hj
    split at hk
    · cases hk; exact ⟨h.now0.1, Int.le_refl _, fun _ => by simp only; omega⟩
    · cases hk
  · exact h.known j k hk
theorem setInc_ok {T : Tab} {k : KnownM} {z : Int} (h : TabOk T) (hk : T.l[T.self.toNat]? = some k) : TabOk { T with l := T.l.set T.self.toNat { k with peer := { k.peer with inc := z } } } := by
  refine ⟨by simp only [List.length_set]; exact h.len, h.self0, h.now0, ?_, h.pings, h.req0, h.last0⟩
  intro j q hq
  simp only at hq ⊢
  rw [List.getElem?_set] at hq
  split at hq
  · rename_i hj
    split at hq
    · cases hq; subst hj; exact h.known _ k hk
    · cases hq
  · exact h.known j q hq
theorem ownT_ok {T : Tab} {p : Peer} (h : TabOk T) : TabOk (ownT T p).1 ∧ (ownT T p).2.length ≤ 1 := by
  obtain ⟨k, hk⟩ := get_self h
  unfold ownT
  rw [hk]
  simp only
  split
  · exact ⟨setInc_ok h hk, by simp⟩
  · split
    · exact ⟨setInc_ok h hk, by simp⟩
    · exact ⟨h, by simp⟩
theorem own_alive {T : Tab} {p : Peer} {k : KnownM} (hk : T.l[T.self.toNat]? = some k) (h1 : p.status = 1) : ownT T p = ({ T with l := T.l.set T.self.toNat { k with peer := { k.peer with inc := max k.peer.inc p.inc } } }, []) := by
  unfold ownT; rw [hk]; simp only [if_pos h1]
theorem own_more {T : Tab} {p : Peer} {k : KnownM} (hk : T.l[T.self.toNat]? = some k) (h1 : ¬ p.status = 1) (h2 : k.peer.inc ≤ p.inc ∧ p.inc < 1099511627776) : ownT T p = ({ T with l := T.l.set T.self.toNat { k with peer := { k.peer with inc := p.inc + 1 } } }, [{ k.peer with inc := p.inc + 1 }]) := by
  unfold ownT; rw [hk]; simp only [if_neg h1, if_pos h2]
theorem own_no {T : Tab} {p : Peer} {k : KnownM} (hk : T.l[T.self.toNat]? = some k) (h1 : ¬ p.status = 1) (h2 : ¬ (k.peer.inc ≤ p.inc ∧ p.inc < 1099511627776)) : ownT T p = (T, []) := by
  unfold ownT; rw [hk]; simp only [if_neg h1, if_neg h2]

theorem ty3 : Ty Try.prog 3 1 8 (.int .i64 (0)) false := ty_of (by kernel_rfl) (by kernel_rfl)
theorem ty4 : Ty Try.prog 4 1 1 (.bool (false)) false := ty_of (by kernel_rfl) (by kernel_rfl)
theorem ty23 : Ty Try.prog 23 3 24 (.agg #[.int .i64 (0), .int .i64 (0), .int .i64 (0)]) true := ty_of (by kernel_rfl) (by kernel_rfl)
theorem ty61 : Ty Try.prog 61 17 240 (.agg #[.int .i64 (0), .int .i64 (0), .int .i64 (0), .int .i64 (0), .string (⟨#[]⟩), .slice (none) (0) (0), .slice (none) (0) (0), .slice (none) (0) (0), .int .i64 (0), .int .i64 (0), .int .i64 (0), .int .i64 (0), .int .i64 (0), .int .i64 (0), .slice (none) (0) (0), .slice (none) (0) (0), .slice (none) (0) (0)]) true := ty_of (by kernel_rfl) (by kernel_rfl)
theorem ty67 : Ty Try.prog 67 4 32 (.agg #[.int .i64 (0), .int .i64 (0), .int .i64 (0), .int .i64 (0)]) true := ty_of (by kernel_rfl) (by kernel_rfl)
theorem ty68 : Ty Try.prog 68 32 256 (.agg #[.int .i64 (0), .int .i64 (0), .int .i64 (0), .int .i64 (0), .int .i64 (0), .int .i64 (0), .int .i64 (0), .int .i64 (0), .int .i64 (0), .int .i64 (0), .int .i64 (0), .int .i64 (0), .int .i64 (0), .int .i64 (0), .int .i64 (0), .int .i64 (0), .int .i64 (0), .int .i64 (0), .int .i64 (0), .int .i64 (0), .int .i64 (0), .int .i64 (0), .int .i64 (0), .int .i64 (0), .int .i64 (0), .int .i64 (0), .int .i64 (0), .int .i64 (0), .int .i64 (0), .int .i64 (0), .int .i64 (0), .int .i64 (0)]) true := ty_of (by kernel_rfl) (by kernel_rfl)
theorem en17 : Enters Try.prog 17 := enters_of Try.func17 rfl (by kernel_rfl)
theorem en38 : Enters Try.prog 38 := enters_of Try.func38 rfl (by kernel_rfl)

set_option maxRecDepth 100000 in
set_option maxHeartbeats 4000000 in
theorem greater_ (x y : Peer) (w : World) :
    Calls Try.prog 11 #[.agg #[.int .i64 ((x).node), .int .i64 ((x).inc), .int .i64 ((x).status)], .agg #[.int .i64 ((y).node), .int .i64 ((y).inc), .int .i64 ((y).status)]] w (Ret (fun v w' => v = .bool (greaterB x y) ∧ Ext w w')) := by
  refine calls_run (n := 31) Try.func11 rfl rfl rfl ?_
  refine Run.seq ?_
  refine Run.region ?_
  refine RL.st rfl <| St1.box (v := .agg #[.int .i64 ((x).node), .int .i64 ((x).inc), .int .i64 ((x).status)]) rfl ?_
  intro b_1 w_2 hl_5 hb_4 K_3
  replace hb_4 : Blk w_2 b_1 [.int .i64 ((x).node), .int .i64 ((x).inc), .int .i64 ((x).status)] 23 := hb_4
  have : w.heap.size ≤ b_1 := hl_5
  clear hl_5
  have K0 := (K_3 : Ext w _)
  refine RL.st rfl <| St1.box (v := .agg #[.int .i64 ((y).node), .int .i64 ((y).inc), .int .i64 ((y).status)]) rfl ?_
  intro b_6 w_7 hl_10 hb_9 K_8
  replace hb_9 : Blk w_7 b_6 [.int .i64 ((y).node), .int .i64 ((y).inc), .int .i64 ((y).status)] 23 := hb_9
  have ne_11 : b_1 < b_6 := Nat.lt_of_lt_of_le hb_4.lt hl_10
  have : w.heap.size ≤ b_6 := Nat.le_trans K0.size hl_10
  clear hl_10
  replace hb_4 := hb_4.ext K_8
  replace K0 := K0.ext K_8
  refine RL.val (x_assignB rfl) ?_
  refine RL.nil ?_
  refine Run.seq ?_
  refine Run.region ?_
  refine RL.val (x_fld (o' := 0) Try.underlying23 rfl ty3 rfl rfl rfl) ?_
  refine RL.val (x_ld (v := .int .i64 ((x).node)) ty3 rfl rfl (hb_4.cl.field (i := 0) rfl)) ?_
  refine RL.val (x_fld (o' := 0) Try.underlying23 rfl ty3 rfl rfl rfl) ?_
  refine RL.val (x_ld (v := .int .i64 ((y).node)) ty3 rfl rfl (hb_9.cl.field (i := 0) rfl)) ?_
  refine RL.val (x_eqI rfl rfl) ?_
  refine RL.val (x_moveB rfl) ?_
  refine RL.gval (wantedT rfl rfl rfl rfl) (fun hg => (x_fld (o' := 1) Try.underlying23 rfl ty3 rfl rfl rfl)) ?_
  refine RL.gval (wantedT rfl rfl rfl rfl) (fun hg => (x_ld (v := .int .i64 ((x).inc)) ty3 (gvr hg) rfl (hb_4.cl.field (i := 1) rfl))) ?_
  refine RL.gval (wantedT rfl rfl rfl rfl) (fun hg => (x_fld (o' := 1) Try.underlying23 rfl ty3 rfl rfl rfl)) ?_
  refine RL.gval (wantedT rfl rfl rfl rfl) (fun hg => (x_ld (v := .int .i64 ((y).inc)) ty3 (gvr hg) rfl (hb_9.cl.field (i := 1) rfl))) ?_
  refine RL.gval (wantedT rfl rfl rfl rfl) (fun hg => (x_gtI (gvr hg) (gvr hg))) ?_
  refine RL.gval (wantedT rfl rfl rfl rfl) (fun hg => (x_moveB (gvr hg))) ?_
  refine RL.gval (wantedGF rfl rfl rfl rfl) (fun hg => (x_fld (o' := 1) Try.underlying23 rfl ty3 rfl rfl rfl)) ?_
  refine RL.gval (wantedGF rfl rfl rfl rfl) (fun hg => (x_ld (v := .int .i64 ((x).inc)) ty3 (gvr hg) rfl (hb_4.cl.field (i := 1) rfl))) ?_
  refine RL.gval (wantedGF rfl rfl rfl rfl) (fun hg => (x_fld (o' := 1) Try.underlying23 rfl ty3 rfl rfl rfl)) ?_
  refine RL.gval (wantedGF rfl rfl rfl rfl) (fun hg => (x_ld (v := .int .i64 ((y).inc)) ty3 (gvr hg) rfl (hb_9.cl.field (i := 1) rfl))) ?_
  refine RL.gval (wantedGF rfl rfl rfl rfl) (fun hg => (x_eqI (gvr hg) (gvr hg))) ?_
  refine RL.gval (wantedGF rfl rfl rfl rfl) (fun hg => (x_moveB (gvr hg))) ?_
  refine RL.gval (wantedGT rfl rfl rfl rfl) (fun hg => (x_fld (o' := 2) Try.underlying23 rfl ty3 rfl rfl rfl)) ?_
  refine RL.gval (wantedGT rfl rfl rfl rfl) (fun hg => (x_ld (v := .int .i64 ((x).status)) ty3 (gvr hg) rfl (hb_4.cl.field (i := 2) rfl))) ?_
  refine RL.gval (wantedGT rfl rfl rfl rfl) (fun hg => (x_fld (o' := 2) Try.underlying23 rfl ty3 rfl rfl rfl)) ?_
  refine RL.gval (wantedGT rfl rfl rfl rfl) (fun hg => (x_ld (v := .int .i64 ((y).status)) ty3 (gvr hg) rfl (hb_9.cl.field (i := 2) rfl))) ?_
  refine RL.gval (wantedGT rfl rfl rfl rfl) (fun hg => (x_gtI (gvr hg) (gvr hg))) ?_
  refine RL.gval (wantedGF rfl rfl rfl rfl) (fun hg => (x_andG hg rfl rfl rfl)) ?_
  refine RL.gval (wantedT rfl rfl rfl rfl) (fun hg => (x_orG hg rfl rfl rfl)) ?_
  refine RL.val (x_and rfl rfl rfl) ?_
  refine RL.val (x_assignB rfl) ?_
  refine RL.nil ?_
  refine Run.ret1 (v := .bool ((((x).node) == ((y).node)) && ((decide (((y).inc) < ((x).inc))) || ((((x).inc) == ((y).inc)) && (decide (((y).status) < ((x).status))))))) Try.func11 rfl rfl ?_
  exact ⟨_, rfl, rfl, K0⟩

set_option maxRecDepth 100000 in
set_option maxHeartbeats 4000000 in
theorem greaterR_ (x y : Peer) (w : World) :
    Calls Try.prog 12 #[.agg #[.int .i64 ((x).node), .int .i64 ((x).inc), .int .i64 ((x).status)], .agg #[.int .i64 ((y).node), .int .i64 ((y).inc), .int .i64 ((y).status)]] w (Ret (fun v w' => v = .bool (greaterB x y) ∧ Ext w w')) := by
  refine calls_run (n := 31) Try.func12 rfl rfl rfl ?_
  refine Run.seq ?_
  refine Run.region ?_
  refine RL.st rfl <| St1.box (v := .agg #[.int .i64 ((x).node), .int .i64 ((x).inc), .int .i64 ((x).status)]) rfl ?_
  intro b_1 w_2 hl_5 hb_4 K_3
  replace hb_4 : Blk w_2 b_1 [.int .i64 ((x).node), .int .i64 ((x).inc), .int .i64 ((x).status)] 23 := hb_4
  have : w.heap.size ≤ b_1 := hl_5
  clear hl_5
  have K0 := (K_3 : Ext w _)
  refine RL.st rfl <| St1.box (v := .agg #[.int .i64 ((y).node), .int .i64 ((y).inc), .int .i64 ((y).status)]) rfl ?_
  intro b_6 w_7 hl_10 hb_9 K_8
  replace hb_9 : Blk w_7 b_6 [.int .i64 ((y).node), .int .i64 ((y).inc), .int .i64 ((y).status)] 23 := hb_9
  have ne_11 : b_1 < b_6 := Nat.lt_of_lt_of_le hb_4.lt hl_10
  have : w.heap.size ≤ b_6 := Nat.le_trans K0.size hl_10
  clear hl_10
  replace hb_4 := hb_4.ext K_8
  replace K0 := K0.ext K_8
  refine RL.val (x_assignB rfl) ?_
  refine RL.nil ?_
  refine Run.seq ?_
  refine Run.region ?_
  refine RL.val (x_fld (o' := 0) Try.underlying23 rfl ty3 rfl rfl rfl) ?_
  refine RL.val (x_ld (v := .int .i64 ((x).node)) ty3 rfl rfl (hb_4.cl.field (i := 0) rfl)) ?_
  refine RL.val (x_fld (o' := 0) Try.underlying23 rfl ty3 rfl rfl rfl) ?_
  refine RL.val (x_ld (v := .int .i64 ((y).node)) ty3 rfl rfl (hb_9.cl.field (i := 0) rfl)) ?_
  refine RL.val (x_eqI rfl rfl) ?_
  refine RL.val (x_moveB rfl) ?_
  refine RL.gval (wantedT rfl rfl rfl rfl) (fun hg => (x_fld (o' := 1) Try.underlying23 rfl ty3 rfl rfl rfl)) ?_
  refine RL.gval (wantedT rfl rfl rfl rfl) (fun hg => (x_ld (v := .int .i64 ((x).inc)) ty3 (gvr hg) rfl (hb_4.cl.field (i := 1) rfl))) ?_
  refine RL.gval (wantedT rfl rfl rfl rfl) (fun hg => (x_fld (o' := 1) Try.underlying23 rfl ty3 rfl rfl rfl)) ?_
  refine RL.gval (wantedT rfl rfl rfl rfl) (fun hg => (x_ld (v := .int .i64 ((y).inc)) ty3 (gvr hg) rfl (hb_9.cl.field (i := 1) rfl))) ?_
  refine RL.gval (wantedT rfl rfl rfl rfl) (fun hg => (x_gtI (gvr hg) (gvr hg))) ?_
  refine RL.gval (wantedT rfl rfl rfl rfl) (fun hg => (x_moveB (gvr hg))) ?_
  refine RL.gval (wantedGF rfl rfl rfl rfl) (fun hg => (x_fld (o' := 1) Try.underlying23 rfl ty3 rfl rfl rfl)) ?_
  refine RL.gval (wantedGF rfl rfl rfl rfl) (fun hg => (x_ld (v := .int .i64 ((x).inc)) ty3 (gvr hg) rfl (hb_4.cl.field (i := 1) rfl))) ?_
  refine RL.gval (wantedGF rfl rfl rfl rfl) (fun hg => (x_fld (o' := 1) Try.underlying23 rfl ty3 rfl rfl rfl)) ?_
  refine RL.gval (wantedGF rfl rfl rfl rfl) (fun hg => (x_ld (v := .int .i64 ((y).inc)) ty3 (gvr hg) rfl (hb_9.cl.field (i := 1) rfl))) ?_
  refine RL.gval (wantedGF rfl rfl rfl rfl) (fun hg => (x_eqI (gvr hg) (gvr hg))) ?_
  refine RL.gval (wantedGF rfl rfl rfl rfl) (fun hg => (x_moveB (gvr hg))) ?_
  refine RL.gval (wantedGT rfl rfl rfl rfl) (fun hg => (x_fld (o' := 2) Try.underlying23 rfl ty3 rfl rfl rfl)) ?_
  refine RL.gval (wantedGT rfl rfl rfl rfl) (fun hg => (x_ld (v := .int .i64 ((x).status)) ty3 (gvr hg) rfl (hb_4.cl.field (i := 2) rfl))) ?_
  refine RL.gval (wantedGT rfl rfl rfl rfl) (fun hg => (x_fld (o' := 2) Try.underlying23 rfl ty3 rfl rfl rfl)) ?_
  refine RL.gval (wantedGT rfl rfl rfl rfl) (fun hg => (x_ld (v := .int .i64 ((y).status)) ty3 (gvr hg) rfl (hb_9.cl.field (i := 2) rfl))) ?_
  refine RL.gval (wantedGT rfl rfl rfl rfl) (fun hg => (x_gtI (gvr hg) (gvr hg))) ?_
  refine RL.gval (wantedGF rfl rfl rfl rfl) (fun hg => (x_andG hg rfl rfl rfl)) ?_
  refine RL.gval (wantedT rfl rfl rfl rfl) (fun hg => (x_orG hg rfl rfl rfl)) ?_
  refine RL.val (x_and rfl rfl rfl) ?_
  refine RL.val (x_assignB rfl) ?_
  refine RL.nil ?_
  refine Run.ret1 (v := .bool ((((x).node) == ((y).node)) && ((decide (((y).inc) < ((x).inc))) || ((((x).inc) == ((y).inc)) && (decide (((y).status) < ((x).status))))))) Try.func12 rfl rfl ?_
  exact ⟨_, rfl, rfl, K0⟩

set_option maxRecDepth 100000 in
set_option maxHeartbeats 4000000 in
theorem may_ (x : Peer) (w : World) :
    Calls Try.prog 40 #[.agg #[.int .i64 ((x).node), .int .i64 ((x).inc), .int .i64 ((x).status)]] w (Ret (fun v w' => v = .bool (mayB x) ∧ Ext w w')) := by
  refine calls_run (n := 31) Try.func40 rfl rfl rfl ?_
  refine Run.seq ?_
  refine Run.region ?_
  refine RL.st rfl <| St1.box (v := .agg #[.int .i64 ((x).node), .int .i64 ((x).inc), .int .i64 ((x).status)]) rfl ?_
  intro b_1 w_2 hl_5 hb_4 K_3
  replace hb_4 : Blk w_2 b_1 [.int .i64 ((x).node), .int .i64 ((x).inc), .int .i64 ((x).status)] 23 := hb_4
  have : w.heap.size ≤ b_1 := hl_5
  clear hl_5
  have K0 := (K_3 : Ext w _)
  refine RL.val (x_assignB rfl) ?_
  refine RL.nil ?_
  refine Run.seq ?_
  refine Run.region ?_
  refine RL.val (x_fld (o' := 0) Try.underlying23 rfl ty3 rfl rfl rfl) ?_
  refine RL.val (x_ld (v := .int .i64 ((x).node)) ty3 rfl rfl (hb_4.cl.field (i := 0) rfl)) ?_
  refine RL.val (x_geI rfl rfl) ?_
  refine RL.val (x_moveB rfl) ?_
  refine RL.gval (wantedT rfl rfl rfl rfl) (fun hg => (x_fld (o' := 0) Try.underlying23 rfl ty3 rfl rfl rfl)) ?_
  refine RL.gval (wantedT rfl rfl rfl rfl) (fun hg => (x_ld (v := .int .i64 ((x).node)) ty3 (gvr hg) rfl (hb_4.cl.field (i := 0) rfl))) ?_
  refine RL.gval (wantedT rfl rfl rfl rfl) (fun hg => (x_ltI (gvr hg) rfl)) ?_
  refine RL.val (x_and rfl rfl rfl) ?_
  refine RL.val (x_moveB rfl) ?_
  refine RL.gval (wantedT rfl rfl rfl rfl) (fun hg => (x_fld (o' := 1) Try.underlying23 rfl ty3 rfl rfl rfl)) ?_
  refine RL.gval (wantedT rfl rfl rfl rfl) (fun hg => (x_ld (v := .int .i64 ((x).inc)) ty3 (gvr hg) rfl (hb_4.cl.field (i := 1) rfl))) ?_
  refine RL.gval (wantedT rfl rfl rfl rfl) (fun hg => (x_geI (gvr hg) rfl)) ?_
  refine RL.val (x_and rfl rfl rfl) ?_
  refine RL.val (x_moveB rfl) ?_
  refine RL.gval (wantedT rfl rfl rfl rfl) (fun hg => (x_fld (o' := 1) Try.underlying23 rfl ty3 rfl rfl rfl)) ?_
  refine RL.gval (wantedT rfl rfl rfl rfl) (fun hg => (x_ld (v := .int .i64 ((x).inc)) ty3 (gvr hg) rfl (hb_4.cl.field (i := 1) rfl))) ?_
  refine RL.gval (wantedT rfl rfl rfl rfl) (fun hg => (x_leI (gvr hg) rfl)) ?_
  refine RL.val (x_and rfl rfl rfl) ?_
  refine RL.val (x_moveB rfl) ?_
  refine RL.gval (wantedT rfl rfl rfl rfl) (fun hg => (x_fld (o' := 2) Try.underlying23 rfl ty3 rfl rfl rfl)) ?_
  refine RL.gval (wantedT rfl rfl rfl rfl) (fun hg => (x_ld (v := .int .i64 ((x).status)) ty3 (gvr hg) rfl (hb_4.cl.field (i := 2) rfl))) ?_
  refine RL.gval (wantedT rfl rfl rfl rfl) (fun hg => (x_geI (gvr hg) rfl)) ?_
  refine RL.val (x_and rfl rfl rfl) ?_
  refine RL.val (x_moveB rfl) ?_
  refine RL.gval (wantedT rfl rfl rfl rfl) (fun hg => (x_fld (o' := 2) Try.underlying23 rfl ty3 rfl rfl rfl)) ?_
  refine RL.gval (wantedT rfl rfl rfl rfl) (fun hg => (x_ld (v := .int .i64 ((x).status)) ty3 (gvr hg) rfl (hb_4.cl.field (i := 2) rfl))) ?_
  refine RL.gval (wantedT rfl rfl rfl rfl) (fun hg => (x_leI (gvr hg) rfl)) ?_
  refine RL.val (x_and rfl rfl rfl) ?_
  refine RL.val (x_assignB rfl) ?_
  refine RL.nil ?_
  refine Run.ret1 (v := .bool ((((((decide (0 ≤ ((x).node))) && (decide (((x).node) < 8))) && (decide (0 ≤ ((x).inc)))) && (decide (((x).inc) ≤ 1099511627776))) && (decide (1 ≤ ((x).status)))) && (decide (((x).status) ≤ 3)))) Try.func40 rfl rfl ?_
  exact ⟨_, rfl, rfl, K0⟩

set_option maxRecDepth 100000 in
set_option maxHeartbeats 4000000 in
theorem mayR_ (x : Peer) (w : World) :
    Calls Try.prog 30 #[.agg #[.int .i64 ((x).node), .int .i64 ((x).inc), .int .i64 ((x).status)]] w (Ret (fun v w' => v = .bool (mayB x) ∧ Ext w w')) := by
  refine calls_run (n := 31) Try.func30 rfl rfl rfl ?_
  refine Run.seq ?_
  refine Run.region ?_
  refine RL.st rfl <| St1.box (v := .agg #[.int .i64 ((x).node), .int .i64 ((x).inc), .int .i64 ((x).status)]) rfl ?_
  intro b_1 w_2 hl_5 hb_4 K_3
  replace hb_4 : Blk w_2 b_1 [.int .i64 ((x).node), .int .i64 ((x).inc), .int .i64 ((x).status)] 23 := hb_4
  have : w.heap.size ≤ b_1 := hl_5
  clear hl_5
  have K0 := (K_3 : Ext w _)
  refine RL.val (x_assignB rfl) ?_
  refine RL.nil ?_
  refine Run.seq ?_
  refine Run.region ?_
  refine RL.val (x_fld (o' := 0) Try.underlying23 rfl ty3 rfl rfl rfl) ?_
  refine RL.val (x_ld (v := .int .i64 ((x).node)) ty3 rfl rfl (hb_4.cl.field (i := 0) rfl)) ?_
  refine RL.val (x_geI rfl rfl) ?_
  refine RL.val (x_moveB rfl) ?_
  refine RL.gval (wantedT rfl rfl rfl rfl) (fun hg => (x_fld (o' := 0) Try.underlying23 rfl ty3 rfl rfl rfl)) ?_
  refine RL.gval (wantedT rfl rfl rfl rfl) (fun hg => (x_ld (v := .int .i64 ((x).node)) ty3 (gvr hg) rfl (hb_4.cl.field (i := 0) rfl))) ?_
  refine RL.gval (wantedT rfl rfl rfl rfl) (fun hg => (x_ltI (gvr hg) rfl)) ?_
  refine RL.val (x_and rfl rfl rfl) ?_
  refine RL.val (x_moveB rfl) ?_
  refine RL.gval (wantedT rfl rfl rfl rfl) (fun hg => (x_fld (o' := 1) Try.underlying23 rfl ty3 rfl rfl rfl)) ?_
  refine RL.gval (wantedT rfl rfl rfl rfl) (fun hg => (x_ld (v := .int .i64 ((x).inc)) ty3 (gvr hg) rfl (hb_4.cl.field (i := 1) rfl))) ?_
  refine RL.gval (wantedT rfl rfl rfl rfl) (fun hg => (x_geI (gvr hg) rfl)) ?_
  refine RL.val (x_and rfl rfl rfl) ?_
  refine RL.val (x_moveB rfl) ?_
  refine RL.gval (wantedT rfl rfl rfl rfl) (fun hg => (x_fld (o' := 1) Try.underlying23 rfl ty3 rfl rfl rfl)) ?_
  refine RL.gval (wantedT rfl rfl rfl rfl) (fun hg => (x_ld (v := .int .i64 ((x).inc)) ty3 (gvr hg) rfl (hb_4.cl.field (i := 1) rfl))) ?_
  refine RL.gval (wantedT rfl rfl rfl rfl) (fun hg => (x_leI (gvr hg) rfl)) ?_
  refine RL.val (x_and rfl rfl rfl) ?_
  refine RL.val (x_moveB rfl) ?_
  refine RL.gval (wantedT rfl rfl rfl rfl) (fun hg => (x_fld (o' := 2) Try.underlying23 rfl ty3 rfl rfl rfl)) ?_
  refine RL.gval (wantedT rfl rfl rfl rfl) (fun hg => (x_ld (v := .int .i64 ((x).status)) ty3 (gvr hg) rfl (hb_4.cl.field (i := 2) rfl))) ?_
  refine RL.gval (wantedT rfl rfl rfl rfl) (fun hg => (x_geI (gvr hg) rfl)) ?_
  refine RL.val (x_and rfl rfl rfl) ?_
  refine RL.val (x_moveB rfl) ?_
  refine RL.gval (wantedT rfl rfl rfl rfl) (fun hg => (x_fld (o' := 2) Try.underlying23 rfl ty3 rfl rfl rfl)) ?_
  refine RL.gval (wantedT rfl rfl rfl rfl) (fun hg => (x_ld (v := .int .i64 ((x).status)) ty3 (gvr hg) rfl (hb_4.cl.field (i := 2) rfl))) ?_
  refine RL.gval (wantedT rfl rfl rfl rfl) (fun hg => (x_leI (gvr hg) rfl)) ?_
  refine RL.val (x_and rfl rfl rfl) ?_
  refine RL.val (x_assignB rfl) ?_
  refine RL.nil ?_
  refine Run.ret1 (v := .bool ((((((decide (0 ≤ ((x).node))) && (decide (((x).node) < 8))) && (decide (0 ≤ ((x).inc)))) && (decide (((x).inc) ≤ 1099511627776))) && (decide (1 ≤ ((x).status)))) && (decide (((x).status) ≤ 3)))) Try.func30 rfl rfl ?_
  exact ⟨_, rfl, rfl, K0⟩

set_option maxRecDepth 100000 in
set_option maxHeartbeats 4000000 in
theorem there_ (b : Nat) (al : Option Addr) (cl : Nat) (T : Tab)  (w : World) (hb : Blk w b (tabCells T al cl) 71) (hl8 : T.l.length = 8) :
    Calls Try.prog 38 #[.pointer (some ⟨b, 0, none⟩)] w (Ret (fun v w' => v = .bool true ∧ Ext w w')) := by
  replace hb : Blk w b (([.bool (true), .int .i64 (T.self), .int .i64 (T.now)] : List Value) ++ flat T.l ++ ([.slice (al) (T.pings.length) (cl), .int .i64 (T.req), .bool (T.begun), .int .i64 (T.last), .int .i64 (T.target)] : List Value)) 71 := hb
  refine calls_run (n := 11) Try.func38 rfl rfl rfl ?_
  refine Run.seq ?_
  refine Run.region ?_
  refine RL.val (x_assignB rfl) ?_
  refine RL.nil ?_
  refine Run.seq ?_
  refine Run.region ?_
  refine RL.val (x_moveP rfl) ?_
  refine RL.val (litT (x_ptrNotNil Try.underlying28 rfl rfl) rfl) ?_
  refine RL.val (x_moveB rfl) ?_
  refine RL.gst (wantedT1 rfl rfl rfl rfl) <| St1.val (x_moveP rfl) ?_
  refine RL.gst (wantedT1 rfl rfl rfl rfl) <| St1.val (x_nilCheck rfl) ?_
  refine RL.gst (wantedT1 rfl rfl rfl rfl) <| St1.val (x_fld (o' := 0) Try.underlying71 rfl ty4 rfl rfl rfl) ?_
  refine RL.gst (wantedT1 rfl rfl rfl rfl) <| St1.val (x_ld (v := .bool (true)) ty4 rfl rfl (hb.cl.field (i := 0) (seg_head rfl))) ?_
  refine RL.val (x_andT rfl rfl rfl) ?_
  refine RL.val (x_assignB rfl) ?_
  refine RL.nil ?_
  refine Run.ret1 (v := .bool (true)) Try.func38 rfl rfl ?_
  exact ⟨_, rfl, rfl, (Keeps.refl _ w)⟩

set_option maxRecDepth 100000 in
set_option maxHeartbeats 4000000 in
theorem pass_ (b : Nat) (al : Option Addr) (cl : Nat) (T : Tab) (t : Int) (w : World) (hT : TabAt w b al cl T) (ht : t ≤ 9223372036854775807) :
    Calls Try.prog 39 #[.pointer (some ⟨b, 0, none⟩), .int .i64 (t)] w (Ret (fun v w' => v = .tuple #[] ∧ TabAt w' b al cl (passT T t) ∧ Keeps (tabS b al) w w')) := by
  obtain ⟨hb, ho, hap, ok⟩ := hT
  have hl8 := ok.len
  replace hb : Blk w b (([.bool (true), .int .i64 (T.self), .int .i64 (T.now)] : List Value) ++ flat T.l ++ ([.slice (al) (T.pings.length) (cl), .int .i64 (T.req), .bool (T.begun), .int .i64 (T.last), .int .i64 (T.target)] : List Value)) 71 := hb
  refine calls_run (n := 13) Try.func39 rfl rfl rfl ?_
  refine Run.region ?_
  refine RL.val (x_moveP rfl) ?_
  refine RL.val (x_moveP rfl) ?_
  refine RL.val (x_nilCheck rfl) ?_
  refine RL.val (x_fld (o' := 2) Try.underlying71 rfl ty3 rfl rfl rfl) ?_
  refine RL.val (x_ld (v := .int .i64 (T.now)) ty3 rfl rfl (hb.cl.field (i := 2) (seg_head rfl))) ?_
  refine RL.val (x_moveI rfl) ?_
  refine RL.val (x_maxI rfl rfl) ?_
  refine RL.val (x_nilCheck rfl) ?_
  refine RL.val (x_fld (o' := 2) Try.underlying71 rfl ty3 rfl rfl rfl) ?_
  refine RL.st rfl <| St1.store (v := .int .i64 (max T.now t)) ty3 rfl rfl rfl (by simp [Value.cells, Value.oneCell']) hb (by rw [seg_len, hl8]; show _ ≤ 3 + 8 * 4 + 5; omega) ?_
  intro w_1 hb_ K_2
  have hb' : Blk w_1 b (([.bool (true), .int .i64 (T.self), .int .i64 (max T.now t)] : List Value) ++ flat T.l ++ ([.slice (al) (T.pings.length) (cl), .int .i64 (T.req), .bool (T.begun), .int .i64 (T.last), .int .i64 (T.target)] : List Value)) 71 := (by have h_ := blk_st_head hb_ (by simp); exact h_)
  clear hb_
  replace ho := ho.keepO K_2 (fun q_ hq_ eq_ => hap (by simp only [one] at eq_; rw [← eq_]; exact hq_))
  have K0 := (Keeps.refl (tabS b al) w).trans K_2 (fun x _ hx => by simp only [one] at hx; subst hx; exact (Or.inl rfl))
  replace hb := hb'
  clear hb'
  refine RL.nil ?_
  refine Run.fin0 Try.func39 rfl ?_
  have hT_3 : TabAt w_1 b al cl (passT T t) := ⟨hb, ho, hap, (passT_ok ok ht)⟩
  have pt_4 : ∀ q_, tabS b al q_ → q_ < w.heap.size → (tabS b al) q_ := (fun q_ h1 hlt => h1.elim (fun e => e ▸ (Or.inl rfl)) (fun h => (fun x h _ => Or.inr h) q_ h hlt))
  clear hb ho
  exact ⟨_, rfl, rfl, hT_3, K0⟩

set_option maxRecDepth 100000 in
set_option maxHeartbeats 4000000 in
theorem status_ (b : Nat) (al : Option Addr) (cl : Nat) (T : Tab) (n : Int) (w : World) (hb : Blk w b (tabCells T al cl) 71) (hl8 : T.l.length = 8) :
    Calls Try.prog 17 #[.pointer (some ⟨b, 0, none⟩), .int .i64 (n)] w (Ret (fun v w' => v = .int .i64 (statusL T.l n) ∧ Ext w w')) := by
  replace hb : Blk w b (([.bool (true), .int .i64 (T.self), .int .i64 (T.now)] : List Value) ++ flat T.l ++ ([.slice (al) (T.pings.length) (cl), .int .i64 (T.req), .bool (T.begun), .int .i64 (T.last), .int .i64 (T.target)] : List Value)) 71 := hb
  refine calls_run (n := 24) Try.func17 rfl rfl rfl ?_
  refine Run.seq ?_
  refine Run.region ?_
  refine RL.val (x_assignI rfl) ?_
  refine RL.nil ?_
  refine Run.seq ?_
  refine Run.seq ?_
  refine Run.region ?_
  refine RL.val (x_moveP rfl) ?_
  refine RL.st rfl <| St1.call (vals := [.pointer (some ⟨b, 0, none⟩)]) en38 rfl (there_ _ _ _ T _ hb hl8) ?_
  rintro _ w_1 ⟨rfl, K_2⟩
  replace hb := hb.ext K_2
  have K0 := (K_2 : Ext w _)
  refine RL.val (x_not rfl) ?_
  refine RL.val (x_moveB rfl) ?_
  refine RL.gst (wantedF1 rfl rfl rfl rfl) <| St1.val (x_moveI rfl) ?_
  refine RL.gst (wantedF1 rfl rfl rfl rfl) <| St1.val (x_ltI rfl rfl) ?_
  refine RL.val (x_orF rfl rfl rfl) ?_
  refine RL.val (x_moveB rfl) ?_
  refine RL.gval (wantedF rfl rfl rfl rfl) (fun hg => (x_moveI rfl)) ?_
  refine RL.gval (wantedF rfl rfl rfl rfl) (fun hg => (x_geI (gvr hg) rfl)) ?_
  refine RL.val (x_or rfl rfl rfl) ?_
  refine RL.nil ?_
  refine Run.cond rfl (fun hc15 => ?_) (fun hc15 => ?_)
  · try simp only [br] at hc15
    refine Run.seq ?_
    refine Run.region ?_
    refine RL.val (x_assignI rfl) ?_
    refine RL.nil ?_
    refine Run.ret1 (v := .int .i64 (0)) Try.func17 rfl rfl ?_
    exact ⟨_, rfl, by rw [statusL_no hc15], K0⟩
  · try simp only [br] at hc15
    refine Run.skip ?_
    refine Run.seq ?_
    refine Run.region ?_
    refine RL.val (x_moveP rfl) ?_
    refine RL.val (x_moveI rfl) ?_
    refine RL.val (x_nilCheck rfl) ?_
    refine RL.val (x_fld (o' := 3) Try.underlying71 rfl ty68 rfl rfl rfl) ?_
    refine RL.val (x_idxA Try.underlying68 ty67 rfl rfl (by omega) (by omega)) ?_
    refine RL.val (x_fld (o' := 3 + (n).toNat * 4 + 0) Try.underlying67 rfl ty23 rfl rfl rfl) ?_
    refine RL.val (x_fld (o' := 3 + (n).toNat * 4 + 0 + 2) Try.underlying23 rfl ty3 rfl rfl rfl) ?_
    obtain ⟨k, hx⟩ : ∃ x_, (T.l)[(n).toNat]? = some x_ := ⟨_, List.getElem?_eq_getElem (by rw [hl8]; omega)⟩
    refine RL.val (x_ld (v := .int .i64 (((k).peer).status)) ty3 rfl rfl ((seg_cl hb hx).field (i := 2) rfl)) ?_
    refine RL.val (x_assignI rfl) ?_
    refine RL.nil ?_
    refine Run.ret1 (v := .int .i64 (((k).peer).status)) Try.func17 rfl rfl ?_
    exact ⟨_, rfl, by rw [statusL_at (by omega) hx], K0⟩

set_option maxRecDepth 100000 in
set_option maxHeartbeats 4000000 in
theorem up_ (b : Nat) (al : Option Addr) (cl : Nat) (T : Tab) (n : Int) (w : World) (hb : Blk w b (tabCells T al cl) 71) (hl8 : T.l.length = 8) :
    Calls Try.prog 18 #[.pointer (some ⟨b, 0, none⟩), .int .i64 (n)] w (Ret (fun v w' => v = .bool ((statusL T.l n == 1) || (statusL T.l n == 2)) ∧ Ext w w')) := by
  replace hb : Blk w b (([.bool (true), .int .i64 (T.self), .int .i64 (T.now)] : List Value) ++ flat T.l ++ ([.slice (al) (T.pings.length) (cl), .int .i64 (T.req), .bool (T.begun), .int .i64 (T.last), .int .i64 (T.target)] : List Value)) 71 := hb
  refine calls_run (n := 15) Try.func18 rfl rfl rfl ?_
  refine Run.seq ?_
  refine Run.region ?_
  refine RL.val (x_assignB rfl) ?_
  refine RL.nil ?_
  refine Run.seq ?_
  refine Run.region ?_
  refine RL.val (x_moveP rfl) ?_
  refine RL.val (x_moveI rfl) ?_
  refine RL.st rfl <| St1.call (vals := [.pointer (some ⟨b, 0, none⟩), .int .i64 (n)]) en17 rfl (status_ _ _ _ T n _ hb hl8) ?_
  rintro _ w_1 ⟨rfl, K_2⟩
  replace hb := hb.ext K_2
  have K0 := (K_2 : Ext w _)
  refine RL.val (x_assignI rfl) ?_
  refine RL.nil ?_
  refine Run.seq ?_
  refine Run.region ?_
  refine RL.val (x_moveI rfl) ?_
  refine RL.val (x_eqI rfl rfl) ?_
  refine RL.val (x_moveB rfl) ?_
  refine RL.gval (wantedF rfl rfl rfl rfl) (fun hg => (x_moveI rfl)) ?_
  refine RL.gval (wantedF rfl rfl rfl rfl) (fun hg => (x_eqI (gvr hg) rfl)) ?_
  refine RL.val (x_or rfl rfl rfl) ?_
  refine RL.val (x_assignB rfl) ?_
  refine RL.nil ?_
  refine Run.ret1 (v := .bool (((statusL T.l n) == 1) || ((statusL T.l n) == 2))) Try.func18 rfl rfl ?_
  exact ⟨_, rfl, rfl, K0⟩

set_option maxRecDepth 100000 in
set_option maxHeartbeats 4000000 in
theorem peers_ (b : Nat) (al : Option Addr) (cl : Nat) (T : Tab)  (w : World) (hb : Blk w b (tabCells T al cl) 71) (hl8 : T.l.length = 8) :
    Calls Try.prog 23 #[.pointer (some ⟨b, 0, none⟩)] w (Ret (fun v w' => ∃ a' c', v = .slice a' (peersL T.l).length c' ∧ OwnSl w' 23 a' c' (peersL T.l) ∧ (∀ b, own a' b → w.heap.size ≤ b) ∧ Ext w w')) := by
  replace hb : Blk w b (([.bool (true), .int .i64 (T.self), .int .i64 (T.now)] : List Value) ++ flat T.l ++ ([.slice (al) (T.pings.length) (cl), .int .i64 (T.req), .bool (T.begun), .int .i64 (T.last), .int .i64 (T.target)] : List Value)) 71 := hb
  refine calls_run (n := 33) Try.func23 rfl rfl rfl ?_
  refine Run.seq ?_
  refine Run.region ?_
  refine RL.val (x_assignSl rfl) ?_
  refine RL.nil ?_
  refine Run.seq ?_
  refine Run.seq ?_
  refine Run.region ?_
  refine RL.val (x_moveP rfl) ?_
  refine RL.st rfl <| St1.call (vals := [.pointer (some ⟨b, 0, none⟩)]) en38 rfl (there_ _ _ _ T _ hb hl8) ?_
  rintro _ w_1 ⟨rfl, K_2⟩
  replace hb := hb.ext K_2
  have K0 := (K_2 : Ext w _)
  refine RL.val (x_not rfl) ?_
  refine RL.nil ?_
  refine Run.condF rfl ?_
  refine Run.skip ?_
  refine Run.seq ?_
  refine Run.region ?_
  refine RL.val (x_assignSl rfl) ?_
  refine RL.nil ?_
  refine Run.seq ?_
  refine Run.seq ?_
  refine Run.region ?_
  refine RL.val (x_moveP rfl) ?_
  refine RL.val (x_nilCheck rfl) ?_
  refine RL.val (x_fld (o' := 3) Try.underlying71 rfl ty68 rfl rfl rfl) ?_
  refine RL.val (x_lds (cs := (flat T.l).toArray) ty68 rfl (arr_size hl8 rfl) (seg_arr hb)) ?_
  refine RL.val (x_moveI rfl) ?_
  refine RL.nil ?_
  refine Run.block ?_
  refine Run.loop (ι := Nat) (fun i ρ' w' => ∃ ah : Option Addr, ∃ ch : Nat, Holds ρ' [(3, .slice (ah) ((peersL (T.l.take i)).length) (ch)), (12, .agg (flat T.l).toArray), (13, .int .i64 (((i : Nat) : Int)))] ∧ Ext w w' ∧ (Blk w' b (([.bool (true), .int .i64 (T.self), .int .i64 (T.now)] : List Value) ++ flat T.l ++ ([.slice (al) (T.pings.length) (cl), .int .i64 (T.req), .bool (T.begun), .int .i64 (T.last), .int .i64 (T.target)] : List Value)) 71) ∧ (OwnSl w' 23 ah ch (peersL (T.l.take i))) ∧ (¬ own ah b) ∧ (∀ q_, own ah q_ → w.heap.size ≤ q_) ∧ (i ≤ 8)) (fun i => 8 - i) 0 ?_ ?_
  · rw [List.take_zero, show peersL [] = [] from rfl]
    have ho_8 := OwnSl.nil (α := Peer) w_1 23
    refine ⟨_, _, ⟨rfl, rfl, rfl, trivial⟩, K0, hb, ho_8, (own_none b), (fun q_ h1 => absurd h1 (own_none q_)), ?_⟩
    · omega
  clear hb
  clear K0
  rintro i ρ_9 w_3 ⟨ah, ch, hH_4, K0, hb, ho_5, pr_6, pr_7, hi⟩ ih1
  obtain ⟨ρ₀, rfl⟩ := hH_4.ex
  clear hH_4
  refine Run.seq ?_
  refine Run.region ?_
  refine RL.val (x_ltI rfl rfl) ?_
  refine RL.nil ?_
  refine Run.seq ?_
  refine Run.cond rfl (fun hc14 => ?_) (fun hc14 => ?_)
  · try simp only [br] at hc14
    refine Run.skip ?_
    refine Run.seq ?_
    refine Run.block ?_
    refine Run.seq ?_
    refine Run.region ?_
    obtain ⟨x, hx⟩ : ∃ x_, (T.l)[i]? = some x_ := ⟨_, List.getElem?_eq_getElem (by rw [hl8]; omega)⟩
    refine RL.val (x_idxV (v := .agg #[.int .i64 (((x).peer).node), .int .i64 (((x).peer).inc), .int .i64 (((x).peer).status), .int .i64 ((x).since)]) (y := x) Try.underlying68 ty67 rfl rfl (by omega) hx rfl rfl) ?_
    refine RL.st rfl <| St1.alloc ty67 ?_
    intro b_10 w_11 hl_14 hb_13 K_12
    replace hb_13 : Blk w_11 b_10 [.int .i64 (0), .int .i64 (0), .int .i64 (0), .int .i64 (0)] 67 := hb_13
    have ne_15 : b < b_10 := Nat.lt_of_lt_of_le hb.lt hl_14
    have pr_16 : ¬ own ah b_10 := fun h => absurd (ho_5.own_lt _ h) (by omega)
    have : w.heap.size ≤ b_10 := Nat.le_trans K0.size hl_14
    clear hl_14
    replace hb := hb.ext K_12
    replace ho_5 := ho_5.ext K_12
    replace K0 := K0.ext K_12
    refine RL.st rfl <| St1.store (v := .agg #[.int .i64 (((x).peer).node), .int .i64 (((x).peer).inc), .int .i64 (((x).peer).status), .int .i64 ((x).since)]) ty67 rfl rfl rfl (by simp [Value.cells, Value.oneCell']) hb_13 (by simp) ?_
    intro w_17 hb_13_ K_18
    have hb_13' : Blk w_17 b_10 [.int .i64 (((x).peer).node), .int .i64 (((x).peer).inc), .int .i64 (((x).peer).status), .int .i64 ((x).since)] 67 := hb_13_
    clear hb_13_
    replace hb := hb.keep K_18 (by simp only [one]; omega)
    replace ho_5 := ho_5.keepO K_18 (fun q_ hq_ eq_ => pr_16 (by simp only [one] at eq_; rw [← eq_]; exact hq_))
    replace K0 := K0.new K_18 (fun x hx => by simp only [one] at hx; omega)
    replace hb_13 := hb_13'
    clear hb_13'
    refine RL.nil ?_
    refine Run.seq ?_
    refine Run.region ?_
    refine RL.val (x_fld (o' := 0) Try.underlying67 rfl ty23 rfl rfl rfl) ?_
    refine RL.val (x_lds (cs := #[.int .i64 (((x).peer).node), .int .i64 (((x).peer).inc), .int .i64 (((x).peer).status)]) ty23 rfl rfl (hb_13.cl.drop 0 3)) ?_
    refine RL.val (x_build (cells := #[.int .i64 (0), .int .i64 (0), .int .i64 (0)]) (by kernel_rfl)) ?_
    refine RL.val (x_neA (by kernel_rfl) rfl rfl (eq_Peer ((x).peer) (⟨0, 0, 0⟩ : Peer))) ?_
    refine RL.val (x_moveB rfl) ?_
    refine RL.gval (wantedT rfl rfl rfl rfl) (fun hg => (x_fld (o' := 0) Try.underlying67 rfl ty23 rfl rfl rfl)) ?_
    refine RL.gval (wantedT rfl rfl rfl rfl) (fun hg => (x_fld (o' := 2) Try.underlying23 rfl ty3 rfl (gvr hg) rfl)) ?_
    refine RL.gval (wantedT rfl rfl rfl rfl) (fun hg => (x_ld (v := .int .i64 (((x).peer).status)) ty3 (gvr hg) rfl (hb_13.cl.field (i := 2) rfl))) ?_
    refine RL.gval (wantedT rfl rfl rfl rfl) (fun hg => (x_neI (gvr hg) rfl)) ?_
    refine RL.val (x_and rfl rfl rfl) ?_
    refine RL.nil ?_
    refine Run.cond rfl (fun hc25 => ?_) (fun hc25 => ?_)
    · try simp only [br] at hc25
      have hpl := peersL_len (T.l.take i)
      have hlt := List.length_take_le i T.l
      refine Run.region ?_
      refine RL.val (x_moveSl rfl) ?_
      refine RL.val (x_fld (o' := 0) Try.underlying67 rfl ty23 rfl rfl rfl) ?_
      refine RL.val (x_lds (cs := #[.int .i64 (((x).peer).node), .int .i64 (((x).peer).inc), .int .i64 (((x).peer).status)]) ty23 rfl rfl (hb_13.cl.drop 0 3)) ?_
      refine RL.st rfl <| St1.buildSlice ([(x).peer] : List Peer) Try.underlying32 ty23 rfl rfl (by first | decide | (simp [Enc.size])) ?_
      intro b_19 w_20 hl_23 ho_22 K_21
      have pr_24 : ¬ own (some ⟨b_19, 0, none⟩) b := notNew (ge_new hl_23) hb.lt
      have pr_25 : ∀ q_, own (some ⟨b_19, 0, none⟩) q_ → ¬ own ah q_ := apartNew (ge_new hl_23) ho_5.own_lt
      have pr_26 : ¬ own (some ⟨b_19, 0, none⟩) b_10 := notNew (ge_new hl_23) hb_13.lt
      have pg_27 : ∀ q_, own (some ⟨b_19, 0, none⟩) q_ → w.heap.size ≤ q_ := fun q_ h => Nat.le_trans K0.size ((ge_new hl_23) q_ h)
      clear hl_23
      replace hb := hb.ext K_21
      replace ho_5 := ho_5.ext K_21
      replace hb_13 := hb_13.ext K_21
      replace K0 := K0.ext K_21
      refine RL.st rfl <| St1.append (xs := peersL (T.l.take i)) (ys := ([(x).peer] : List Peer)) Try.underlying32 ty23 rfl rfl rfl ho_5 ho_22.sl (by first | omega | (simp only [lr]; omega)) (by decide) ?_
      intro a_28 c_29 w_30 ho_31 K_32 hm_33 hrm_34
      have pr_35 : ¬ own a_28 b := hm_33.not pr_6 hb.lt
      have pr_36 : ¬ own a_28 b_10 := hm_33.not pr_16 hb_13.lt
      have pr_37 : ∀ q_, own a_28 q_ → ¬ own (some ⟨b_19, 0, none⟩) q_ := hm_33.apart (fun q_ h1 h2 => pr_25 q_ h2 h1) ho_22.own_lt
      have pg_38 : ∀ q_, own a_28 q_ → w.heap.size ≤ q_ := hm_33.ge pr_7 K0.size
      replace hb := hb.keep K_32 pr_6
      replace hb_13 := hb_13.keep K_32 pr_16
      replace ho_22 := ho_22.keepO K_32 pr_25
      replace K0 := K0.new K_32 pr_7
      clear hm_33
      clear hrm_34
      refine RL.val (x_assignSl rfl) ?_
      refine RL.nil ?_
      refine Run.inBlock ?_
      refine Run.region ?_
      refine RL.val (litI (c := ((i + 1 : Nat) : Int)) (x_add rfl rfl (by omega) (by omega)) rfl) ?_
      refine RL.val (x_moveI rfl) ?_
      refine RL.nil ?_
      have e := peersL_snoc hx
      rw [if_neg hc25.2] at e
      refine ih1 (i + 1) _ _ ?_ (by omega)
      rw [e]
      refine ⟨_, _, ⟨rfl, rfl, rfl, trivial⟩, K0, hb, ho_31, pr_35, pg_38, ?_⟩
      · omega
    · try simp only [br] at hc25
      refine Run.skip ?_
      refine Run.inBlock ?_
      refine Run.region ?_
      refine RL.val (litI (c := ((i + 1 : Nat) : Int)) (x_add rfl rfl (by omega) (by omega)) rfl) ?_
      refine RL.val (x_moveI rfl) ?_
      refine RL.nil ?_
      have e := peersL_snoc hx
      rw [if_pos (hc25.elim (fun h => by rw [h]) id)] at e
      refine ih1 (i + 1) _ _ ?_ (by omega)
      rw [e]
      refine ⟨_, _, ⟨rfl, rfl, rfl, trivial⟩, K0, hb, ho_5, pr_6, pr_7, ?_⟩
      · omega
  · try simp only [br] at hc14
    refine Run.exit rfl ?_
    refine Run.seq ?_
    refine Run.region ?_
    refine RL.val (x_moveSl rfl) ?_
    refine RL.val (x_assignSl rfl) ?_
    refine RL.nil ?_
    refine Run.ret1 (v := .slice (ah) ((peersL (T.l.take i)).length) (ch)) Try.func23 rfl rfl ?_
    obtain rfl : i = 8 := by omega
    rw [List.take_of_length_le (by omega)] at *
    exact ⟨_, rfl, ah, ch, rfl, ho_5, pr_7, K0⟩

set_option maxRecDepth 100000 in
set_option maxHeartbeats 4000000 in
theorem new_ (n : Int) (w : World) :
    Calls Try.prog 14 #[.int .i64 (n)] w (Ret (fun v w' => ((n < 0 ∨ 8 ≤ n) ∧ v = .tuple #[.pointer none, .int .i64 1] ∧ Ext w w') ∨ ∃ b, (0 ≤ n ∧ n < 8) ∧ v = .tuple #[.pointer (some ⟨b, 0, none⟩), .int .i64 0] ∧ TabAt w' b none 0 (newT n) ∧ w.heap.size ≤ b ∧ Ext w w')) := by
  refine calls_run (n := 23) Try.func14 rfl rfl rfl ?_
  refine Run.seq ?_
  refine Run.region ?_
  refine RL.val (x_assignP rfl) ?_
  refine RL.val (x_assignI rfl) ?_
  refine RL.nil ?_
  refine Run.seq ?_
  refine Run.seq ?_
  refine Run.region ?_
  refine RL.val (x_moveI rfl) ?_
  refine RL.val (x_ltI rfl rfl) ?_
  refine RL.val (x_moveB rfl) ?_
  refine RL.gval (wantedF rfl rfl rfl rfl) (fun hg => (x_moveI rfl)) ?_
  refine RL.gval (wantedF rfl rfl rfl rfl) (fun hg => (x_geI (gvr hg) rfl)) ?_
  refine RL.val (x_or rfl rfl rfl) ?_
  refine RL.nil ?_
  refine Run.cond rfl (fun hc10 => ?_) (fun hc10 => ?_)
  · try simp only [br] at hc10
    refine Run.seq ?_
    refine Run.region ?_
    refine RL.val (x_assignP rfl) ?_
    refine RL.val (x_assignI rfl) ?_
    refine RL.nil ?_
    refine Run.ret2 (v := .pointer none) (x := .int .i64 (1)) Try.func14 rfl rfl rfl ?_
    exact ⟨_, rfl, .inl ⟨hc10, rfl, Keeps.refl _ w⟩⟩
  · try simp only [br] at hc10
    refine Run.skip ?_
    refine Run.seq ?_
    refine Run.region ?_
    refine RL.val (x_moveI rfl) ?_
    refine RL.val (x_build (cells := #[.bool (true), .int .i64 (n), .int .i64 (0), .int .i64 (0), .int .i64 (0), .int .i64 (0), .int .i64 (0), .int .i64 (0), .int .i64 (0), .int .i64 (0), .int .i64 (0), .int .i64 (0), .int .i64 (0), .int .i64 (0), .int .i64 (0), .int .i64 (0), .int .i64 (0), .int .i64 (0), .int .i64 (0), .int .i64 (0), .int .i64 (0), .int .i64 (0), .int .i64 (0), .int .i64 (0), .int .i64 (0), .int .i64 (0), .int .i64 (0), .int .i64 (0), .int .i64 (0), .int .i64 (0), .int .i64 (0), .int .i64 (0), .int .i64 (0), .int .i64 (0), .int .i64 (0), .slice (none) (0) (0), .int .i64 (0), .bool (false), .int .i64 (0), .int .i64 (-1)]) (by kernel_rfl)) ?_
    refine RL.st rfl <| St1.box (v := .agg #[.bool (true), .int .i64 (n), .int .i64 (0), .int .i64 (0), .int .i64 (0), .int .i64 (0), .int .i64 (0), .int .i64 (0), .int .i64 (0), .int .i64 (0), .int .i64 (0), .int .i64 (0), .int .i64 (0), .int .i64 (0), .int .i64 (0), .int .i64 (0), .int .i64 (0), .int .i64 (0), .int .i64 (0), .int .i64 (0), .int .i64 (0), .int .i64 (0), .int .i64 (0), .int .i64 (0), .int .i64 (0), .int .i64 (0), .int .i64 (0), .int .i64 (0), .int .i64 (0), .int .i64 (0), .int .i64 (0), .int .i64 (0), .int .i64 (0), .int .i64 (0), .int .i64 (0), .slice (none) (0) (0), .int .i64 (0), .bool (false), .int .i64 (0), .int .i64 (-1)]) rfl ?_
    intro b_1 w_2 hl_5 hb_4 K_3
    replace hb_4 : Blk w_2 b_1 [.bool (true), .int .i64 (n), .int .i64 (0), .int .i64 (0), .int .i64 (0), .int .i64 (0), .int .i64 (0), .int .i64 (0), .int .i64 (0), .int .i64 (0), .int .i64 (0), .int .i64 (0), .int .i64 (0), .int .i64 (0), .int .i64 (0), .int .i64 (0), .int .i64 (0), .int .i64 (0), .int .i64 (0), .int .i64 (0), .int .i64 (0), .int .i64 (0), .int .i64 (0), .int .i64 (0), .int .i64 (0), .int .i64 (0), .int .i64 (0), .int .i64 (0), .int .i64 (0), .int .i64 (0), .int .i64 (0), .int .i64 (0), .int .i64 (0), .int .i64 (0), .int .i64 (0), .slice (none) (0) (0), .int .i64 (0), .bool (false), .int .i64 (0), .int .i64 (-1)] 71 := hb_4
    have : w.heap.size ≤ b_1 := hl_5
    clear hl_5
    have K0 := (K_3 : Ext w _)
    refine RL.val (x_assignP rfl) ?_
    refine RL.nil ?_
    refine Run.seq ?_
    have ho_6 := OwnSl.nil (α := Ping) w_2 107
    have hr8 : (List.replicate 8 zk).length = 8 := List.length_replicate
    replace hb_4 : Blk w_2 b_1 (([.bool (true), .int .i64 (n), .int .i64 (0)] : List Value) ++ flat (List.replicate 8 zk) ++ ([.slice (none) (0) (0), .int .i64 (0), .bool (false), .int .i64 (0), .int .i64 (-1)] : List Value)) 71 := hb_4
    refine Run.region ?_
    refine RL.val (x_moveP rfl) ?_
    refine RL.val (x_moveI rfl) ?_
    refine RL.val (x_moveI rfl) ?_
    refine RL.val (x_build (cells := #[.int .i64 (n), .int .i64 (0), .int .i64 (1)]) (by kernel_rfl)) ?_
    refine RL.val (x_nilCheck rfl) ?_
    refine RL.val (x_fld (o' := 3) Try.underlying71 rfl ty68 rfl rfl rfl) ?_
    refine RL.val (x_idxA Try.underlying68 ty67 rfl rfl (by omega) (by omega)) ?_
    refine RL.val (x_fld (o' := 3 + (n).toNat * 4 + 0) Try.underlying67 rfl ty23 rfl rfl rfl) ?_
    have hn_9 : ((List.replicate 8 zk).set ((n).toNat) ({ zk with peer := (⟨n, 0, 1⟩ : Peer) } : KnownM)).length = 8 := by rw [List.length_set]; exact hr8
    refine RL.st rfl <| St1.store (v := .agg #[.int .i64 (n), .int .i64 (0), .int .i64 (1)]) ty23 rfl rfl rfl (by simp [Value.cells, Value.oneCell']) hb_4 (by rw [seg_len, hr8]; show _ ≤ 3 + 8 * 4 + 5; omega) ?_
    intro w_7 hb_4_ K_8
    have hb_4' : Blk w_7 b_1 (([.bool (true), .int .i64 (n), .int .i64 (0)] : List Value) ++ flat ((List.replicate 8 zk).set ((n).toNat) ({ zk with peer := (⟨n, 0, 1⟩ : Peer) } : KnownM)) ++ ([.slice (none) (0) (0), .int .i64 (0), .bool (false), .int .i64 (0), .int .i64 (-1)] : List Value)) 71 := blk_st_el (x' := ({ zk with peer := (⟨n, 0, 1⟩ : Peer) } : KnownM)) (off := 0) hb_4_ rfl (rep_get (show (n).toNat < 8 by omega)) rfl (by decide) rfl
    clear hb_4_
    replace ho_6 := ho_6.keepO K_8 (fun q_ hq_ eq_ => (own_none b_1) (by simp only [one] at eq_; rw [← eq_]; exact hq_))
    replace K0 := K0.new K_8 (fun x hx => by simp only [one] at hx; omega)
    replace hb_4 := hb_4'
    clear hb_4'
    refine RL.nil ?_
    refine Run.seq ?_
    refine Run.region ?_
    refine RL.val (x_moveP rfl) ?_
    refine RL.val (x_assignP rfl) ?_
    refine RL.val (x_assignI rfl) ?_
    refine RL.nil ?_
    refine Run.ret2 (v := .pointer (some ⟨b_1, 0, none⟩)) (x := .int .i64 (0)) Try.func14 rfl rfl rfl ?_
    have hT_10 : TabAt w_7 b_1 none 0 (newT n) := ⟨hb_4, ho_6, (own_none b_1), (newT_ok (by omega))⟩
    have pt_11 : ∀ q_, tabS b_1 none q_ → w.heap.size ≤ q_ := (fun q_ h1 => h1.elim (fun e => by omega) (fun h => (fun q_ h1 => absurd h1 (own_none q_)) q_ h))
    clear hb_4 ho_6
    exact ⟨_, rfl, .inr ⟨b_1, by omega, rfl, hT_10, by omega, K0⟩⟩

set_option maxRecDepth 100000 in
set_option maxHeartbeats 4000000 in
theorem learn_ (b : Nat) (al : Option Addr) (cl : Nat) (T : Tab) (p : Peer) (w : World) (hT : TabAt w b al cl T) (hp : 0 ≤ p.node ∧ p.node < 8) :
    Calls Try.prog 42 #[.pointer (some ⟨b, 0, none⟩), .agg #[.int .i64 ((p).node), .int .i64 ((p).inc), .int .i64 ((p).status)]] w (Ret (fun v w' => v = .agg #[.int .i64 p.node, .int .i64 p.inc, .int .i64 p.status] ∧ TabAt w' b al cl (learnT T p) ∧ Keeps (tabS b al) w w')) := by
  obtain ⟨hb, ho, hap, ok⟩ := hT
  have hl8 := ok.len
  replace hb : Blk w b (([.bool (true), .int .i64 (T.self), .int .i64 (T.now)] : List Value) ++ flat T.l ++ ([.slice (al) (T.pings.length) (cl), .int .i64 (T.req), .bool (T.begun), .int .i64 (T.last), .int .i64 (T.target)] : List Value)) 71 := hb
  refine calls_run (n := 18) Try.func42 rfl rfl rfl ?_
  refine Run.seq ?_
  refine Run.region ?_
  refine RL.st rfl <| St1.box (v := .agg #[.int .i64 ((p).node), .int .i64 ((p).inc), .int .i64 ((p).status)]) rfl ?_
  intro b_1 w_2 hl_5 hb_4 K_3
  replace hb_4 : Blk w_2 b_1 [.int .i64 ((p).node), .int .i64 ((p).inc), .int .i64 ((p).status)] 23 := hb_4
  have ne_6 : b < b_1 := Nat.lt_of_lt_of_le hb.lt hl_5
  have pr_7 : ¬ own al b_1 := fun h => absurd (ho.own_lt _ h) (by omega)
  have : w.heap.size ≤ b_1 := hl_5
  clear hl_5
  replace hb := hb.ext K_3
  replace ho := ho.ext K_3
  have K0 := (K_3 : Ext w _).to (S := (tabS b al))
  refine RL.st rfl <| St1.alloc ty23 ?_
  intro b_8 w_9 hl_12 hb_11 K_10
  replace hb_11 : Blk w_9 b_8 [.int .i64 (0), .int .i64 (0), .int .i64 (0)] 23 := hb_11
  have ne_13 : b < b_8 := Nat.lt_of_lt_of_le hb.lt hl_12
  have ne_14 : b_1 < b_8 := Nat.lt_of_lt_of_le hb_4.lt hl_12
  have pr_15 : ¬ own al b_8 := fun h => absurd (ho.own_lt _ h) (by omega)
  have : w.heap.size ≤ b_8 := Nat.le_trans K0.size hl_12
  clear hl_12
  replace hb := hb.ext K_10
  replace ho := ho.ext K_10
  replace hb_4 := hb_4.ext K_10
  replace K0 := K0.ext K_10
  refine RL.nil ?_
  refine Run.seq ?_
  refine Run.drawT [12] (m := 13) (by kernel_rfl) rfl ?_
  intro w_16 K_17
  replace hb := hb.ext K_17
  replace ho := ho.ext K_17
  replace hb_4 := hb_4.ext K_17
  replace hb_11 := hb_11.ext K_17
  replace K0 := K0.ext K_17
  refine ⟨fun w' => Blk w' b (([.bool (true), .int .i64 (T.self), .int .i64 (T.now)] : List Value) ++ flat T.l ++ ([.slice (al) (T.pings.length) (cl), .int .i64 (T.req), .bool (T.begun), .int .i64 (T.last), .int .i64 (T.target)] : List Value)) 71 ∧ Blk w' b_1 [.int .i64 ((p).node), .int .i64 ((p).inc), .int .i64 ((p).status)] 23 ∧ True, ?_⟩
  refine RT.takeP (v := .pointer (some ⟨b, 0, none⟩)) 0 rfl (by kernel_rfl) (.inr ⟨hb, hb_4, trivial⟩) (fun _ => (x_moveP rfl)) ?_
  refine RT.takeP (v := .pointer (some ⟨b_1, 0, none⟩)) 1 rfl (by kernel_rfl) (.inr ⟨hb, hb_4, trivial⟩) (fun _ => (x_fld (o' := 0) Try.underlying23 rfl ty3 rfl rfl rfl)) ?_
  refine RT.take (v := .int .i64 ((p).node)) 2 rfl (by kernel_rfl) ⟨hb, hb_4, trivial⟩ (by rintro _ ⟨hb, hb_4, -⟩; exact (x_ld (v := .int .i64 ((p).node)) ty3 rfl rfl (hb_4.cl.field (i := 0) rfl))) ?_
  refine RT.take (v := .agg #[.int .i64 ((p).node), .int .i64 ((p).inc), .int .i64 ((p).status)]) 3 rfl (by kernel_rfl) ⟨hb, hb_4, trivial⟩ (by rintro _ ⟨hb, hb_4, -⟩; exact (x_lds (cs := #[.int .i64 ((p).node), .int .i64 ((p).inc), .int .i64 ((p).status)]) ty23 rfl rfl (hb_4.cl.drop 0 3))) ?_
  refine RT.takeP (v := .pointer (some ⟨b, 0, none⟩)) 4 rfl (by kernel_rfl) (.inr ⟨hb, hb_4, trivial⟩) (fun _ => (x_moveP rfl)) ?_
  refine RT.takeP (v := .pointer (some ⟨b, 0, none⟩)) 5 rfl (by kernel_rfl) (.inr ⟨hb, hb_4, trivial⟩) (fun _ => (x_nilCheck rfl)) ?_
  refine RT.takeP (v := .pointer (some ⟨b, 2, none⟩)) 6 rfl (by kernel_rfl) (.inr ⟨hb, hb_4, trivial⟩) (fun _ => (x_fld (o' := 2) Try.underlying71 rfl ty3 rfl rfl rfl)) ?_
  refine RT.take (v := .int .i64 (T.now)) 7 rfl (by kernel_rfl) ⟨hb, hb_4, trivial⟩ (by rintro _ ⟨hb, hb_4, -⟩; exact (x_ld (v := .int .i64 (T.now)) ty3 rfl rfl (hb.cl.field (i := 2) (seg_head rfl)))) ?_
  refine RT.takeP (v := .agg #[.int .i64 ((p).node), .int .i64 ((p).inc), .int .i64 ((p).status), .int .i64 (T.now)]) 8 rfl (by kernel_rfl) (.inr ⟨hb, hb_4, trivial⟩) (fun _ => (x_build (cells := #[.int .i64 ((p).node), .int .i64 ((p).inc), .int .i64 ((p).status), .int .i64 (T.now)]) (by kernel_rfl))) ?_
  refine RT.takeP (v := .pointer (some ⟨b, 0, none⟩)) 9 rfl (by kernel_rfl) (.inr ⟨hb, hb_4, trivial⟩) (fun _ => (x_nilCheck rfl)) ?_
  refine RT.takeP (v := .pointer (some ⟨b, 3, none⟩)) 10 rfl (by kernel_rfl) (.inr ⟨hb, hb_4, trivial⟩) (fun _ => (x_fld (o' := 3) Try.underlying71 rfl ty68 rfl rfl rfl)) ?_
  refine RT.takeP (v := .pointer (some ⟨b, 3 + ((p).node).toNat * 4, none⟩)) 11 rfl (by kernel_rfl) (.inr ⟨hb, hb_4, trivial⟩) (fun _ => (x_idxA Try.underlying68 ty67 rfl rfl (by omega) (by omega))) ?_
  obtain ⟨x_20, hx_21⟩ : ∃ x_, (T.l)[((p).node).toNat]? = some x_ := ⟨_, List.getElem?_eq_getElem (by rw [hl8]; omega)⟩
  have hn_22 : (T.l.set (((p).node).toNat) (⟨p, T.now⟩ : KnownM)).length = 8 := by rw [List.length_set]; exact hl8
  refine RT.st 12 rfl (by kernel_rfl) rfl <| St1.store (v := .agg #[.int .i64 ((p).node), .int .i64 ((p).inc), .int .i64 ((p).status), .int .i64 (T.now)]) ty67 rfl rfl rfl (by simp [Value.cells, Value.oneCell']) hb (by rw [seg_len, hl8]; show _ ≤ 3 + 8 * 4 + 5; omega) ?_
  intro w_18 hb_ K_19
  have hb' : Blk w_18 b (([.bool (true), .int .i64 (T.self), .int .i64 (T.now)] : List Value) ++ flat (T.l.set (((p).node).toNat) (⟨p, T.now⟩ : KnownM)) ++ ([.slice (al) (T.pings.length) (cl), .int .i64 (T.req), .bool (T.begun), .int .i64 (T.last), .int .i64 (T.target)] : List Value)) 71 := blk_st_el (x' := (⟨p, T.now⟩ : KnownM)) (off := 0) hb_ rfl hx_21 rfl (by decide) rfl
  clear hb_
  replace ho := ho.keepO K_19 (fun q_ hq_ eq_ => hap (by simp only [one] at eq_; rw [← eq_]; exact hq_))
  replace hb_4 := hb_4.keep K_19 (by simp only [one]; omega)
  replace hb_11 := hb_11.keep K_19 (by simp only [one]; omega)
  replace K0 := K0.trans K_19 (fun x _ hx => by simp only [one] at hx; subst hx; exact (Or.inl rfl))
  replace hb := hb'
  clear hb'
  refine ⟨.inl (by kernel_rfl), ?_⟩
  refine RT.done (by kernel_rfl) ?_
  refine Run.seq ?_
  refine Run.region ?_
  refine RL.val (x_lds (cs := #[.int .i64 ((p).node), .int .i64 ((p).inc), .int .i64 ((p).status)]) ty23 rfl rfl (hb_4.cl.drop 0 3)) ?_
  refine RL.st rfl <| St1.store (v := .agg #[.int .i64 ((p).node), .int .i64 ((p).inc), .int .i64 ((p).status)]) ty23 rfl rfl rfl (by simp [Value.cells, Value.oneCell']) hb_11 (by simp) ?_
  intro w_23 hb_11_ K_24
  have hb_11' : Blk w_23 b_8 [.int .i64 ((p).node), .int .i64 ((p).inc), .int .i64 ((p).status)] 23 := hb_11_
  clear hb_11_
  replace hb := hb.keep K_24 (by simp only [one]; omega)
  replace ho := ho.keepO K_24 (fun q_ hq_ eq_ => pr_15 (by simp only [one] at eq_; rw [← eq_]; exact hq_))
  replace hb_4 := hb_4.keep K_24 (by simp only [one]; omega)
  replace K0 := K0.trans K_24 (fun x hlt hx => absurd hlt (by simp only [one] at hx; omega))
  replace hb_11 := hb_11'
  clear hb_11'
  refine RL.nil ?_
  refine Run.retC (cs := #[.int .i64 ((p).node), .int .i64 ((p).inc), .int .i64 ((p).status)]) Try.func42 rfl ty23 rfl rfl hb_11.cl ?_
  have hT_25 : TabAt w_23 b al cl (learnT T p) := ⟨hb, ho, hap, (learnT_ok ok hp)⟩
  have pt_26 : ¬ tabS b al b_1 := (fun h1 => h1.elim (fun e => absurd e (by omega)) (fun h => pr_7 h))
  have pt_27 : ¬ tabS b al b_8 := (fun h1 => h1.elim (fun e => absurd e (by omega)) (fun h => pr_15 h))
  have pt_28 : ∀ q_, tabS b al q_ → q_ < w.heap.size → (tabS b al) q_ := (fun q_ h1 hlt => h1.elim (fun e => e ▸ (Or.inl rfl)) (fun h => (fun x h _ => Or.inr h) q_ h hlt))
  clear hb ho
  exact ⟨_, rfl, rfl, hT_25, K0⟩

set_option maxRecDepth 100000 in
set_option maxHeartbeats 4000000 in
theorem own_ (b : Nat) (al : Option Addr) (cl : Nat) (T : Tab) (p : Peer) (w : World) (hT : TabAt w b al cl T) (hp : 0 ≤ p.inc) :
    Calls Try.prog 41 #[.pointer (some ⟨b, 0, none⟩), .agg #[.int .i64 ((p).node), .int .i64 ((p).inc), .int .i64 ((p).status)]] w (Ret (fun v w' => ∃ a' c', v = .slice a' (ownT T p).2.length c' ∧ OwnSl w' 23 a' c' (ownT T p).2 ∧ (∀ x, own a' x → w.heap.size ≤ x) ∧ TabAt w' b al cl (ownT T p).1 ∧ Keeps (tabS b al) w w')) := by
  obtain ⟨hb, ho, hap, ok⟩ := hT
  have hl8 := ok.len
  replace hb : Blk w b (([.bool (true), .int .i64 (T.self), .int .i64 (T.now)] : List Value) ++ flat T.l ++ ([.slice (al) (T.pings.length) (cl), .int .i64 (T.req), .bool (T.begun), .int .i64 (T.last), .int .i64 (T.target)] : List Value)) 71 := hb
  obtain ⟨hs0, hs1⟩ := ok.self0
  obtain ⟨k, hk⟩ := get_self ok
  refine calls_run (n := 52) Try.func41 rfl rfl rfl ?_
  refine Run.seq ?_
  refine Run.region ?_
  refine RL.st rfl <| St1.box (v := .agg #[.int .i64 ((p).node), .int .i64 ((p).inc), .int .i64 ((p).status)]) rfl ?_
  intro b_1 w_2 hl_5 hb_4 K_3
  replace hb_4 : Blk w_2 b_1 [.int .i64 ((p).node), .int .i64 ((p).inc), .int .i64 ((p).status)] 23 := hb_4
  have ne_6 : b < b_1 := Nat.lt_of_lt_of_le hb.lt hl_5
  have pr_7 : ¬ own al b_1 := fun h => absurd (ho.own_lt _ h) (by omega)
  have : w.heap.size ≤ b_1 := hl_5
  clear hl_5
  replace hb := hb.ext K_3
  replace ho := ho.ext K_3
  have K0 := (K_3 : Ext w _).to (S := (tabS b al))
  refine RL.val (x_assignSl rfl) ?_
  refine RL.nil ?_
  refine Run.seq ?_
  refine Run.draw' (m := 10) (by kernel_rfl) rfl ?_
  intro w_8 K_9
  replace hb := hb.ext K_9
  replace ho := ho.ext K_9
  replace hb_4 := hb_4.ext K_9
  replace K0 := K0.ext K_9
  refine RA.take (v := .pointer (some ⟨b, 0, none⟩)) 0 rfl (by kernel_rfl) rfl (by rintro _ rfl; exact (x_moveP rfl)) ?_
  refine RA.take (v := .pointer (some ⟨b, 0, none⟩)) 1 rfl (by kernel_rfl) rfl (by rintro _ rfl; exact (x_moveP rfl)) ?_
  refine RA.take (v := .pointer (some ⟨b, 0, none⟩)) 2 rfl (by kernel_rfl) rfl (by rintro _ rfl; exact (x_nilCheck rfl)) ?_
  refine RA.take (v := .pointer (some ⟨b, 1, none⟩)) 3 rfl (by kernel_rfl) rfl (by rintro _ rfl; exact (x_fld (o' := 1) Try.underlying71 rfl ty3 rfl rfl rfl)) ?_
  refine RA.take (v := .int .i64 (T.self)) 4 rfl (by kernel_rfl) rfl (by rintro _ rfl; exact (x_ld (v := .int .i64 (T.self)) ty3 rfl rfl (hb.cl.field (i := 1) (seg_head rfl)))) ?_
  refine RA.take (v := .pointer (some ⟨b, 0, none⟩)) 5 rfl (by kernel_rfl) rfl (by rintro _ rfl; exact (x_nilCheck rfl)) ?_
  refine RA.take (v := .pointer (some ⟨b, 3, none⟩)) 6 rfl (by kernel_rfl) rfl (by rintro _ rfl; exact (x_fld (o' := 3) Try.underlying71 rfl ty68 rfl rfl rfl)) ?_
  refine RA.take (v := .pointer (some ⟨b, 3 + (T.self).toNat * 4, none⟩)) 7 rfl (by kernel_rfl) rfl (by rintro _ rfl; exact (x_idxA Try.underlying68 ty67 rfl rfl (by omega) (by omega))) ?_
  refine RA.take (v := .pointer (some ⟨b, 3 + (T.self).toNat * 4 + 0, none⟩)) 8 rfl (by kernel_rfl) rfl (by rintro _ rfl; exact (x_fld (o' := 3 + (T.self).toNat * 4 + 0) Try.underlying67 rfl ty23 rfl rfl rfl)) ?_
  refine RA.take (v := .pointer (some ⟨b, 3 + (T.self).toNat * 4 + 0, none⟩)) 9 rfl (by kernel_rfl) rfl (by rintro _ rfl; exact (x_assignP rfl)) ?_
  refine RA.done (by kernel_rfl) ?_
  refine Run.seq ?_
  refine Run.block ?_
  refine Run.seq ?_
  refine Run.region ?_
  refine RL.val (x_fld (o' := 2) Try.underlying23 rfl ty3 rfl rfl rfl) ?_
  refine RL.val (x_ld (v := .int .i64 ((p).status)) ty3 rfl rfl (hb_4.cl.field (i := 2) rfl)) ?_
  refine RL.val (x_eqI rfl rfl) ?_
  refine RL.val (x_assignB rfl) ?_
  refine RL.nil ?_
  refine Run.cond rfl (fun hc15 => ?_) (fun hc15 => ?_)
  · try simp only [br] at hc15
    refine Run.drawT [10] (m := 11) (by kernel_rfl) rfl ?_
    intro w_10 K_11
    replace hb := hb.ext K_11
    replace ho := ho.ext K_11
    replace hb_4 := hb_4.ext K_11
    replace K0 := K0.ext K_11
    refine ⟨fun w' => Blk w' b (([.bool (true), .int .i64 (T.self), .int .i64 (T.now)] : List Value) ++ flat T.l ++ ([.slice (al) (T.pings.length) (cl), .int .i64 (T.req), .bool (T.begun), .int .i64 (T.last), .int .i64 (T.target)] : List Value)) 71 ∧ Blk w' b_1 [.int .i64 ((p).node), .int .i64 ((p).inc), .int .i64 ((p).status)] 23 ∧ True, ?_⟩
    refine RT.takeP (v := .pointer (some ⟨b, 3 + (T.self).toNat * 4 + 0, none⟩)) 0 rfl (by kernel_rfl) (.inr ⟨hb, hb_4, trivial⟩) (fun _ => (x_moveP rfl)) ?_
    refine RT.takeP (v := .pointer (some ⟨b, 3 + (T.self).toNat * 4 + 0, none⟩)) 1 rfl (by kernel_rfl) (.inr ⟨hb, hb_4, trivial⟩) (fun _ => (x_moveP rfl)) ?_
    refine RT.takeP (v := .pointer (some ⟨b, 3 + (T.self).toNat * 4 + 0, none⟩)) 2 rfl (by kernel_rfl) (.inr ⟨hb, hb_4, trivial⟩) (fun _ => (x_nilCheck rfl)) ?_
    refine RT.takeP (v := .pointer (some ⟨b, 3 + (T.self).toNat * 4 + 0 + 1, none⟩)) 3 rfl (by kernel_rfl) (.inr ⟨hb, hb_4, trivial⟩) (fun _ => (x_fld (o' := 3 + (T.self).toNat * 4 + 0 + 1) Try.underlying23 rfl ty3 rfl rfl rfl)) ?_
    refine RT.take (v := .int .i64 (((k).peer).inc)) 4 rfl (by kernel_rfl) ⟨hb, hb_4, trivial⟩ (by rintro _ ⟨hb, hb_4, -⟩; exact (x_ld (v := .int .i64 (((k).peer).inc)) ty3 rfl rfl ((seg_cl hb hk).field (i := 1) rfl))) ?_
    refine RT.takeP (v := .pointer (some ⟨b_1, 1, none⟩)) 5 rfl (by kernel_rfl) (.inr ⟨hb, hb_4, trivial⟩) (fun _ => (x_fld (o' := 1) Try.underlying23 rfl ty3 rfl rfl rfl)) ?_
    refine RT.take (v := .int .i64 ((p).inc)) 6 rfl (by kernel_rfl) ⟨hb, hb_4, trivial⟩ (by rintro _ ⟨hb, hb_4, -⟩; exact (x_ld (v := .int .i64 ((p).inc)) ty3 rfl rfl (hb_4.cl.field (i := 1) rfl))) ?_
    refine RT.takeP (v := .int .i64 (max (((k).peer).inc) ((p).inc))) 7 rfl (by kernel_rfl) (.inr ⟨hb, hb_4, trivial⟩) (fun _ => (x_maxI rfl rfl)) ?_
    refine RT.takeP (v := .pointer (some ⟨b, 3 + (T.self).toNat * 4 + 0, none⟩)) 8 rfl (by kernel_rfl) (.inr ⟨hb, hb_4, trivial⟩) (fun _ => (x_nilCheck rfl)) ?_
    refine RT.takeP (v := .pointer (some ⟨b, 3 + (T.self).toNat * 4 + 0 + 1, none⟩)) 9 rfl (by kernel_rfl) (.inr ⟨hb, hb_4, trivial⟩) (fun _ => (x_fld (o' := 3 + (T.self).toNat * 4 + 0 + 1) Try.underlying23 rfl ty3 rfl rfl rfl)) ?_
    have hn_14 : (T.l.set ((T.self).toNat) ({ k with peer.inc := max (((k).peer).inc) ((p).inc) } : KnownM)).length = 8 := by rw [List.length_set]; exact hl8
    refine RT.st 10 rfl (by kernel_rfl) rfl <| St1.store (v := .int .i64 (max (((k).peer).inc) ((p).inc))) ty3 rfl rfl rfl (by simp [Value.cells, Value.oneCell']) hb (by rw [seg_len, hl8]; show _ ≤ 3 + 8 * 4 + 5; omega) ?_
    intro w_12 hb_ K_13
    have hb' : Blk w_12 b (([.bool (true), .int .i64 (T.self), .int .i64 (T.now)] : List Value) ++ flat (T.l.set ((T.self).toNat) ({ k with peer.inc := max (((k).peer).inc) ((p).inc) } : KnownM)) ++ ([.slice (al) (T.pings.length) (cl), .int .i64 (T.req), .bool (T.begun), .int .i64 (T.last), .int .i64 (T.target)] : List Value)) 71 := blk_st_el (x' := ({ k with peer.inc := max (((k).peer).inc) ((p).inc) } : KnownM)) (off := 1) hb_ rfl hk rfl (by decide) rfl
    clear hb_
    replace ho := ho.keepO K_13 (fun q_ hq_ eq_ => hap (by simp only [one] at eq_; rw [← eq_]; exact hq_))
    replace hb_4 := hb_4.keep K_13 (by simp only [one]; omega)
    replace K0 := K0.trans K_13 (fun x _ hx => by simp only [one] at hx; subst hx; exact (Or.inl rfl))
    replace hb := hb'
    clear hb'
    refine ⟨.inl (by kernel_rfl), ?_⟩
    refine RT.done (by kernel_rfl) ?_
    refine Run.inBlock ?_
    refine Run.seq ?_
    refine Run.region ?_
    refine RL.val (x_assignSl rfl) ?_
    refine RL.nil ?_
    refine Run.ret1 (v := .slice (none) (0) (0)) Try.func41 rfl rfl ?_
    have ho_15 := OwnSl.nil (α := Peer) w_12 23
    have e := own_alive hk hc15
    have e1 : (ownT T p).1 = { T with l := T.l.set ((T.self).toNat) ({ k with peer.inc := max (((k).peer).inc) ((p).inc) } : KnownM) } := by rw [e]
    have e2 : (ownT T p).2 = ([] : List Peer) := by rw [e]
    have hT_16 : TabAt w_12 b al cl ({ T with l := T.l.set ((T.self).toNat) ({ k with peer.inc := max (((k).peer).inc) ((p).inc) } : KnownM) }) := ⟨hb, ho, hap, (by rw [← e1]; exact (ownT_ok ok).1)⟩
    have pt_17 : ¬ tabS b al b_1 := (fun h1 => h1.elim (fun e => absurd e (by omega)) (fun h => pr_7 h))
    have pt_18 : ∀ q_, tabS b al q_ → ¬ own none q_ := (fun q_ h1 h2 => h1.elim (fun e => (own_none b) (e ▸ h2)) (fun h => (fun q_ h1 h2 => (fun q_ h1 _ => own_none q_ h1) q_ h2 h1) q_ h h2))
    have pt_19 : ∀ q_, tabS b al q_ → q_ < w.heap.size → (tabS b al) q_ := (fun q_ h1 hlt => h1.elim (fun e => e ▸ (Or.inl rfl)) (fun h => (fun x h _ => Or.inr h) q_ h hlt))
    clear hb ho
    rw [e1, e2]
    exact ⟨_, rfl, none, 0, rfl, ho_15, fun x hx => Nat.le_of_not_lt fun hlt => pt_18 x ((fun q_ h1 _ => absurd h1 (own_none q_)) x hx hlt) hx, hT_16, K0⟩
  · try simp only [br] at hc15
    refine Run.seq ?_
    refine Run.draw' (m := 13) (by kernel_rfl) rfl ?_
    intro w_20 K_21
    replace hb := hb.ext K_21
    replace ho := ho.ext K_21
    replace hb_4 := hb_4.ext K_21
    replace K0 := K0.ext K_21
    refine RA.take (v := .pointer (some ⟨b_1, 1, none⟩)) 0 rfl (by kernel_rfl) rfl (by rintro _ rfl; exact (x_fld (o' := 1) Try.underlying23 rfl ty3 rfl rfl rfl)) ?_
    refine RA.take (v := .int .i64 ((p).inc)) 1 rfl (by kernel_rfl) rfl (by rintro _ rfl; exact (x_ld (v := .int .i64 ((p).inc)) ty3 rfl rfl (hb_4.cl.field (i := 1) rfl))) ?_
    refine RA.take (v := .pointer (some ⟨b, 3 + (T.self).toNat * 4 + 0, none⟩)) 2 rfl (by kernel_rfl) rfl (by rintro _ rfl; exact (x_moveP rfl)) ?_
    refine RA.take (v := .pointer (some ⟨b, 3 + (T.self).toNat * 4 + 0, none⟩)) 3 rfl (by kernel_rfl) rfl (by rintro _ rfl; exact (x_nilCheck rfl)) ?_
    refine RA.take (v := .pointer (some ⟨b, 3 + (T.self).toNat * 4 + 0 + 1, none⟩)) 4 rfl (by kernel_rfl) rfl (by rintro _ rfl; exact (x_fld (o' := 3 + (T.self).toNat * 4 + 0 + 1) Try.underlying23 rfl ty3 rfl rfl rfl)) ?_
    refine RA.take (v := .int .i64 (((k).peer).inc)) 5 rfl (by kernel_rfl) rfl (by rintro _ rfl; exact (x_ld (v := .int .i64 (((k).peer).inc)) ty3 rfl rfl ((seg_cl hb hk).field (i := 1) rfl))) ?_
    refine RA.take (v := .bool (decide ((((k).peer).inc) ≤ ((p).inc)))) 6 rfl (by kernel_rfl) rfl (by rintro _ rfl; exact (x_geI rfl rfl)) ?_
    refine RA.take (v := .bool (decide ((((k).peer).inc) ≤ ((p).inc)))) 7 rfl (by kernel_rfl) rfl (by rintro _ rfl; exact (x_moveB rfl)) ?_
    refine RA.gtake (v := .pointer (some ⟨b_1, 1, none⟩)) 8 rfl (by kernel_rfl) rfl (wantedT rfl rfl rfl rfl) (fun hg => by rintro _ rfl; exact (x_fld (o' := 1) Try.underlying23 rfl ty3 rfl rfl rfl)) ?_
    refine RA.gtake (v := .int .i64 ((p).inc)) 9 rfl (by kernel_rfl) rfl (wantedT rfl rfl rfl rfl) (fun hg => by rintro _ rfl; exact (x_ld (v := .int .i64 ((p).inc)) ty3 (gvr hg) rfl (hb_4.cl.field (i := 1) rfl))) ?_
    refine RA.gtake (v := .bool (decide (((p).inc) < 1099511627776))) 10 rfl (by kernel_rfl) rfl (wantedT rfl rfl rfl rfl) (fun hg => by rintro _ rfl; exact (x_ltI (gvr hg) rfl)) ?_
    refine RA.take (v := .bool ((decide ((((k).peer).inc) ≤ ((p).inc))) && (decide (((p).inc) < 1099511627776)))) 11 rfl (by kernel_rfl) rfl (by rintro _ rfl; exact (x_and rfl rfl rfl)) ?_
    refine RA.take (v := .bool ((decide ((((k).peer).inc) ≤ ((p).inc))) && (decide (((p).inc) < 1099511627776)))) 12 rfl (by kernel_rfl) rfl (by rintro _ rfl; exact (x_assignB rfl)) ?_
    refine RA.done (by kernel_rfl) ?_
    refine Run.cond rfl (fun hc29 => ?_) (fun hc29 => ?_)
    · try simp only [br] at hc29
      refine Run.seq ?_
      refine Run.region ?_
      refine RL.val (x_moveP rfl) ?_
      refine RL.val (x_fld (o' := 1) Try.underlying23 rfl ty3 rfl rfl rfl) ?_
      refine RL.val (x_ld (v := .int .i64 ((p).inc)) ty3 rfl rfl (hb_4.cl.field (i := 1) rfl)) ?_
      refine RL.val (x_add rfl rfl (by omega) (by omega)) ?_
      refine RL.val (x_nilCheck rfl) ?_
      refine RL.val (x_fld (o' := 3 + (T.self).toNat * 4 + 0 + 1) Try.underlying23 rfl ty3 rfl rfl rfl) ?_
      have hn_24 : (T.l.set ((T.self).toNat) ({ k with peer.inc := ((p).inc) + 1 } : KnownM)).length = 8 := by rw [List.length_set]; exact hl8
      refine RL.st rfl <| St1.store (v := .int .i64 (((p).inc) + 1)) ty3 rfl rfl rfl (by simp [Value.cells, Value.oneCell']) hb (by rw [seg_len, hl8]; show _ ≤ 3 + 8 * 4 + 5; omega) ?_
      intro w_22 hb_ K_23
      have hb' : Blk w_22 b (([.bool (true), .int .i64 (T.self), .int .i64 (T.now)] : List Value) ++ flat (T.l.set ((T.self).toNat) ({ k with peer.inc := ((p).inc) + 1 } : KnownM)) ++ ([.slice (al) (T.pings.length) (cl), .int .i64 (T.req), .bool (T.begun), .int .i64 (T.last), .int .i64 (T.target)] : List Value)) 71 := blk_st_el (x' := ({ k with peer.inc := ((p).inc) + 1 } : KnownM)) (off := 1) hb_ rfl hk rfl (by decide) rfl
      clear hb_
      replace ho := ho.keepO K_23 (fun q_ hq_ eq_ => hap (by simp only [one] at eq_; rw [← eq_]; exact hq_))
      replace hb_4 := hb_4.keep K_23 (by simp only [one]; omega)
      replace K0 := K0.trans K_23 (fun x _ hx => by simp only [one] at hx; subst hx; exact (Or.inl rfl))
      replace hb := hb'
      clear hb'
      refine RL.nil ?_
      refine Run.seq ?_
      refine Run.region ?_
      refine RL.val (x_moveP rfl) ?_
      refine RL.val (x_nilCheck rfl) ?_
      refine RL.val (x_lds (cs := #[.int .i64 (((({ k with peer.inc := ((p).inc) + 1 } : KnownM)).peer).node), .int .i64 (((({ k with peer.inc := ((p).inc) + 1 } : KnownM)).peer).inc), .int .i64 (((({ k with peer.inc := ((p).inc) + 1 } : KnownM)).peer).status)]) ty23 rfl rfl ((seg_cl hb (get_set_self hk)).drop 0 3)) ?_
      refine RL.st rfl <| St1.buildSlice ([(({ k with peer.inc := ((p).inc) + 1 } : KnownM)).peer] : List Peer) Try.underlying32 ty23 rfl rfl (by first | decide | (simp [Enc.size])) ?_
      intro b_25 w_26 hl_29 ho_28 K_27
      have pr_30 : ¬ own (some ⟨b_25, 0, none⟩) b := notNew (ge_new hl_29) hb.lt
      have pr_31 : ∀ q_, own (some ⟨b_25, 0, none⟩) q_ → ¬ own al q_ := apartNew (ge_new hl_29) ho.own_lt
      have pr_32 : ¬ own (some ⟨b_25, 0, none⟩) b_1 := notNew (ge_new hl_29) hb_4.lt
      have pg_33 : ∀ q_, own (some ⟨b_25, 0, none⟩) q_ → q_ < w.heap.size → (tabS b al) q_ := fun q_ h hlt => absurd (Nat.le_trans K0.size ((ge_new hl_29) q_ h)) (by omega)
      have pw_34 : ∀ q_, own (some ⟨b_25, 0, none⟩) q_ → w.heap.size ≤ q_ := fun q_ h => Nat.le_trans K0.size ((ge_new hl_29) q_ h)
      clear hl_29
      replace hb := hb.ext K_27
      replace ho := ho.ext K_27
      replace hb_4 := hb_4.ext K_27
      replace K0 := K0.ext K_27
      refine RL.val (x_assignSl rfl) ?_
      refine RL.nil ?_
      refine Run.ret1 (v := .slice (some ⟨b_25, 0, none⟩) (([(({ k with peer.inc := ((p).inc) + 1 } : KnownM)).peer] : List Peer).length) (([(({ k with peer.inc := ((p).inc) + 1 } : KnownM)).peer] : List Peer).length)) Try.func41 rfl rfl ?_
      have e := own_more hk hc15 hc29
      have e1 : (ownT T p).1 = { T with l := T.l.set ((T.self).toNat) ({ k with peer.inc := ((p).inc) + 1 } : KnownM) } := by rw [e]
      have e2 : (ownT T p).2 = ([(({ k with peer.inc := ((p).inc) + 1 } : KnownM)).peer] : List Peer) := by rw [e]
      have hT_35 : TabAt w_26 b al cl ({ T with l := T.l.set ((T.self).toNat) ({ k with peer.inc := ((p).inc) + 1 } : KnownM) }) := ⟨hb, ho, hap, (by rw [← e1]; exact (ownT_ok ok).1)⟩
      have pt_36 : ¬ tabS b al b_1 := (fun h1 => h1.elim (fun e => absurd e (by omega)) (fun h => pr_7 h))
      have pt_37 : ∀ q_, tabS b al q_ → ¬ own (some ⟨b_25, 0, none⟩) q_ := (fun q_ h1 h2 => h1.elim (fun e => pr_30 (e ▸ h2)) (fun h => (fun q_ h1 h2 => pr_31 q_ h2 h1) q_ h h2))
      have pt_38 : ∀ q_, tabS b al q_ → q_ < w.heap.size → (tabS b al) q_ := (fun q_ h1 hlt => h1.elim (fun e => e ▸ (Or.inl rfl)) (fun h => (fun x h _ => Or.inr h) q_ h hlt))
      clear hb ho
      rw [e1, e2]
      exact ⟨_, rfl, some ⟨b_25, 0, none⟩, ([(({ k with peer.inc := ((p).inc) + 1 } : KnownM)).peer] : List Peer).length, rfl, ho_28, fun x hx => Nat.le_of_not_lt fun hlt => pt_37 x (pg_33 x hx hlt) hx, hT_35, K0⟩
    · try simp only [br] at hc29
      refine Run.skip ?_
      refine Run.inBlock ?_
      refine Run.seq ?_
      refine Run.region ?_
      refine RL.val (x_assignSl rfl) ?_
      refine RL.nil ?_
      refine Run.ret1 (v := .slice (none) (0) (0)) Try.func41 rfl rfl ?_
      have ho_39 := OwnSl.nil (α := Peer) w_20 23
      have e := own_no hk hc15 (by omega)
      have e1 : (ownT T p).1 = T := by rw [e]
      have e2 : (ownT T p).2 = ([] : List Peer) := by rw [e]
      have hT_40 : TabAt w_20 b al cl T := ⟨hb, ho, hap, (by rw [← e1]; exact (ownT_ok ok).1)⟩
      have pt_41 : ¬ tabS b al b_1 := (fun h1 => h1.elim (fun e => absurd e (by omega)) (fun h => pr_7 h))
      have pt_42 : ∀ q_, tabS b al q_ → ¬ own none q_ := (fun q_ h1 h2 => h1.elim (fun e => (own_none b) (e ▸ h2)) (fun h => (fun q_ h1 h2 => (fun q_ h1 _ => own_none q_ h1) q_ h2 h1) q_ h h2))
      have pt_43 : ∀ q_, tabS b al q_ → q_ < w.heap.size → (tabS b al) q_ := (fun q_ h1 hlt => h1.elim (fun e => e ▸ (Or.inl rfl)) (fun h => (fun x h _ => Or.inr h) q_ h hlt))
      clear hb ho
      rw [e1, e2]
      exact ⟨_, rfl, none, 0, rfl, ho_39, fun x hx => Nat.le_of_not_lt fun hlt => pt_42 x ((fun q_ h1 _ => absurd h1 (own_none q_)) x hx hlt) hx, hT_40, K0⟩

set_option maxRecDepth 100000 in
set_option maxHeartbeats 4000000 in
theorem send_ (b : Nat) (al : Option Addr) (cl : Nat) (T : Tab) (kd to rq ow n : Int) (w : World) (hb : Blk w b (tabCells T al cl) 71) (hl8 : T.l.length = 8) :
    Calls Try.prog 63 #[.pointer (some ⟨b, 0, none⟩), .int .i64 (kd), .int .i64 (to), .int .i64 (rq), .int .i64 (ow), .int .i64 (n)] w (Ret (fun v w' => v = Enc.val (mkMsg kd T.self to rq ow n) ∧ Ext w w')) := by
  replace hb : Blk w b (([.bool (true), .int .i64 (T.self), .int .i64 (T.now)] : List Value) ++ flat T.l ++ ([.slice (al) (T.pings.length) (cl), .int .i64 (T.req), .bool (T.begun), .int .i64 (T.last), .int .i64 (T.target)] : List Value)) 71 := hb
  refine calls_run (n := 23) Try.func63 rfl rfl rfl ?_
  refine Run.seq ?_
  refine Run.region ?_
  refine RL.st rfl <| St1.alloc ty61 ?_
  intro b_1 w_2 hl_5 hb_4 K_3
  replace hb_4 : Blk w_2 b_1 [.int .i64 (0), .int .i64 (0), .int .i64 (0), .int .i64 (0), .string (⟨#[]⟩), .slice (none) (0) (0), .slice (none) (0) (0), .slice (none) (0) (0), .int .i64 (0), .int .i64 (0), .int .i64 (0), .int .i64 (0), .int .i64 (0), .int .i64 (0), .slice (none) (0) (0), .slice (none) (0) (0), .slice (none) (0) (0)] 61 := hb_4
  have ne_6 : b < b_1 := Nat.lt_of_lt_of_le hb.lt hl_5
  have : w.heap.size ≤ b_1 := hl_5
  clear hl_5
  replace hb := hb.ext K_3
  have K0 := (K_3 : Ext w _)
  refine RL.nil ?_
  refine Run.seq ?_
  refine Run.region ?_
  refine RL.val (x_moveI rfl) ?_
  refine RL.val (x_moveP rfl) ?_
  refine RL.val (x_nilCheck rfl) ?_
  refine RL.val (x_fld (o' := 1) Try.underlying71 rfl ty3 rfl rfl rfl) ?_
  refine RL.val (x_ld (v := .int .i64 (T.self)) ty3 rfl rfl (hb.cl.field (i := 1) (seg_head rfl))) ?_
  refine RL.val (x_moveI rfl) ?_
  refine RL.val (x_moveI rfl) ?_
  refine RL.val (x_moveI rfl) ?_
  refine RL.val (x_moveI rfl) ?_
  refine RL.val (x_build (cells := #[.int .i64 (kd), .int .i64 (T.self), .int .i64 (to), .int .i64 (rq), .string (⟨#[]⟩), .slice (none) (0) (0), .slice (none) (0) (0), .slice (none) (0) (0), .int .i64 (ow), .int .i64 (0), .int .i64 (n), .int .i64 (0), .int .i64 (0), .int .i64 (0), .slice (none) (0) (0), .slice (none) (0) (0), .slice (none) (0) (0)]) (by kernel_rfl)) ?_
  refine RL.st rfl <| St1.store (v := .agg #[.int .i64 (kd), .int .i64 (T.self), .int .i64 (to), .int .i64 (rq), .string (⟨#[]⟩), .slice (none) (0) (0), .slice (none) (0) (0), .slice (none) (0) (0), .int .i64 (ow), .int .i64 (0), .int .i64 (n), .int .i64 (0), .int .i64 (0), .int .i64 (0), .slice (none) (0) (0), .slice (none) (0) (0), .slice (none) (0) (0)]) ty61 rfl rfl rfl (by simp [Value.cells, Value.oneCell']) hb_4 (by simp) ?_
  intro w_7 hb_4_ K_8
  have hb_4' : Blk w_7 b_1 [.int .i64 (kd), .int .i64 (T.self), .int .i64 (to), .int .i64 (rq), .string (⟨#[]⟩), .slice (none) (0) (0), .slice (none) (0) (0), .slice (none) (0) (0), .int .i64 (ow), .int .i64 (0), .int .i64 (n), .int .i64 (0), .int .i64 (0), .int .i64 (0), .slice (none) (0) (0), .slice (none) (0) (0), .slice (none) (0) (0)] 61 := hb_4_
  clear hb_4_
  replace hb := hb.keep K_8 (by simp only [one]; omega)
  replace K0 := K0.new K_8 (fun x hx => by simp only [one] at hx; omega)
  replace hb_4 := hb_4'
  clear hb_4'
  refine RL.nil ?_
  refine Run.retC (cs := #[.int .i64 (kd), .int .i64 (T.self), .int .i64 (to), .int .i64 (rq), .string (⟨#[]⟩), .slice (none) (0) (0), .slice (none) (0) (0), .slice (none) (0) (0), .int .i64 (ow), .int .i64 (0), .int .i64 (n), .int .i64 (0), .int .i64 (0), .int .i64 (0), .slice (none) (0) (0), .slice (none) (0) (0), .slice (none) (0) (0)]) Try.func63 rfl ty61 rfl rfl hb_4.cl ?_
  exact ⟨_, rfl, rfl, K0⟩

end Go.Proofs.Ytagfdmdajmkddaa
