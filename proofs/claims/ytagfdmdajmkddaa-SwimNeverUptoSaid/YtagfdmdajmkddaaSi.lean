/-
  SwimAnswers.
-/
import Derived.Test.YtagfdmdajmkddaaRows
import Derived.Test.YtagfdmdajmkddaaSh
namespace Go.Proofs.Ytagfdmdajmkddaa
attribute [local irreducible] St1 RL RA RT RT1 Run

open Sa
theorem u64_nonneg (t : Int) : 0 ≤ IntKind.u64.wrap t ∧ IntKind.u64.wrap t < 18446744073709551616 := by
  have e1 : IntKind.u64.bits = 64 := rfl
  have e2 : IntKind.u64.signed = false := rfl
  simp only [IntKind.wrap, e1, e2, Bool.false_and]
  exact ⟨Int.emod_nonneg _ (by decide), Int.emod_lt_of_pos _ (by decide)⟩
theorem mod_n {u m : Int} (h0 : 0 ≤ u) (hm : 0 < m) (hm2 : m ≤ 1099511627776) : ∃ n : Int, IntKind.i64.wrap (u.tmod m) = n ∧ 0 ≤ n ∧ n < m := by
  have h1 : 0 ≤ u.tmod m := Int.tmod_nonneg _ h0
  have h2 : u.tmod m < m := Int.tmod_lt_of_pos _ hm
  exact ⟨_, wrap64 _ (by omega) (by omega), h1, h2⟩
theorem quo_n (t : Int) : ∃ n : Int, (IntKind.i64.wrap (IntKind.u64.wrap ((IntKind.u64.wrap t).tdiv 400))).tmod 50 = n ∧ 0 ≤ n ∧ n < 50 := by
  obtain ⟨h0, h1⟩ := u64_nonneg t
  have h2 : 0 ≤ (IntKind.u64.wrap t).tdiv 400 := Int.tdiv_nonneg h0 (by omega)
  have h3 : (IntKind.u64.wrap t).tdiv 400 ≤ 46116860184273880 := by
    have : (IntKind.u64.wrap t).tdiv 400 = (IntKind.u64.wrap t) / 400 := Int.tdiv_eq_ediv_of_nonneg h0
    omega
  have h4 : IntKind.u64.wrap ((IntKind.u64.wrap t).tdiv 400) = (IntKind.u64.wrap t).tdiv 400 := by
    have e1 : IntKind.u64.bits = 64 := rfl
    have e2 : IntKind.u64.signed = false := rfl
    generalize (IntKind.u64.wrap t).tdiv 400 = q at *
    simp only [IntKind.wrap, e1, e2, Bool.false_and]
    exact Int.emod_eq_of_lt h2 (by omega)
  rw [h4, wrap64 _ (by omega) (by omega)]
  exact ⟨_, rfl, Int.tmod_nonneg _ h2, Int.tmod_lt_of_pos _ (by omega)⟩
theorem old_none {T : Tab} (h : ∀ k ∈ T.l, k.peer.status ≠ 2) : oldT T = (T, []) := by
  have : ∀ i, rf old1 (T, []) i = (T, []) := by
    intro i
    induction i with
    | zero => rfl
    | succ i ih =>
      rw [rf_succ, ih, old1]
      split
      · rfl
      · rename_i k hk
        rw [if_neg]
        exact fun e => h k (List.mem_of_getElem? hk) e.1
  exact this 8
theorem waited_none {T : Tab} (h : T.pings = []) : waitedT T = ⟨T, [], [], []⟩ := by
  have e : waiI T T.pings.length = ⟨T, [], [], []⟩ := by rw [h]; exact tf_zero _ _ _
  unfold waitedT
  rw [e]
  simp only
  rw [← h]
theorem next_good {T : Tab} (h0 : 0 ≤ nextT T) : ∃ k, T.l[(nextT T).toNat]? = some k ∧ k.peer.status ≠ 0 ∧ nextT T ≠ T.self ∧ T.pings.any (fun p => p.target == nextT T) = false := by
  have key : ∀ i, (0 ≤ (rf (nxt1 T) (-1, -1) i).1 → ∃ k, T.l[(rf (nxt1 T) (-1, -1) i).1.toNat]? = some k ∧ k.peer.status ≠ 0 ∧ (rf (nxt1 T) (-1, -1) i).1 ≠ T.self ∧ T.pings.any (fun p => p.target == (rf (nxt1 T) (-1, -1) i).1) = false) ∧
      (0 ≤ (rf (nxt1 T) (-1, -1) i).2 → ∃ k, T.l[(rf (nxt1 T) (-1, -1) i).2.toNat]? = some k ∧ k.peer.status ≠ 0 ∧ (rf (nxt1 T) (-1, -1) i).2 ≠ T.self ∧ T.pings.any (fun p => p.target == (rf (nxt1 T) (-1, -1) i).2) = false) := by
    intro i
    induction i with
    | zero => exact ⟨fun h => by simp [rf] at h, fun h => by simp [rf] at h⟩
    | succ i ih =>
      rw [rf_succ]
      generalize rf (nxt1 T) (-1, -1) i = s at *
      unfold nxt1
      split
      · exact ih
      · rename_i k hk
        split
        · exact ih
        · rename_i hc
          have hg : ∃ k, T.l[((i : Int)).toNat]? = some k ∧ k.peer.status ≠ 0 ∧ (i : Int) ≠ T.self ∧ T.pings.any (fun p => p.target == (i : Int)) = false := by
            refine ⟨k, by simpa using hk, fun e => hc (.inl (.inr e)), fun e => hc (.inl (.inl e)), ?_⟩
            cases ha : T.pings.any (fun p => p.target == (i : Int)) with
            | false => rfl
            | true => exact absurd (.inr ha) hc
          constructor
          · simp only
            split
            · exact fun _ => hg
            · exact ih.1
          · simp only
            split
            · exact fun _ => hg
            · exact ih.2
  obtain ⟨h1, h2⟩ := key 8
  unfold nextT at h0 ⊢
  simp only at h0 ⊢
  split at h0
  · rename_i hc; rw [if_pos hc]; exact h2 hc
  · rename_i hc; rw [if_neg hc]; exact h1 h0
def Alive (l : List KnownM) : Prop := ∀ k ∈ l, k.peer.status = 0 ∨ k.peer.status = 1
/-- nothing is open, nobody is suspected -/
structure Calm (n : Int) (T : Tab) : Prop where
  self : T.self = n
  pings : T.pings = []
  alive : Alive T.l
theorem alive_set {l : List KnownM} {i : Nat} {k : KnownM} (h : Alive l) (hk : k.peer.status = 0 ∨ k.peer.status = 1) : Alive (l.set i k) := by
  intro x hx
  rcases List.mem_or_eq_of_mem_set hx with hx | rfl
  · exact h x hx
  · exact hk
theorem calm_hear {n : Int} {T : Tab} {l : List Peer} {t : Int} (h : Calm n T) (hl : ∀ p ∈ l, p.status = 1) : Calm n (hear T l t).1 := by
  have key : ∀ i, i ≤ l.length → Calm n (tf hear1 (passT T t, []) l i).1 := by
    refine tf_ind (fun i (s : Tab × List Peer) => Calm n s.1) ⟨h.self, h.pings, h.alive⟩ ?_
    intro i p s hx hs
    have hp := hl p (mem_of_at hx)
    unfold hear1
    split
    · exact hs
    · split
      · unfold ownT
        split
        · exact hs
        · rename_i k hk
          rw [if_pos hp]
          exact ⟨hs.self, hs.pings, alive_set hs.alive (hs.alive k (List.mem_of_getElem? hk))⟩
      · split
        · exact hs
        · split
          · exact ⟨hs.self, hs.pings, alive_set hs.alive (.inr hp)⟩
          · exact hs
  exact key l.length (Nat.le_refl _)
theorem calm_new {n : Int} : Calm n (newT n) := by
  refine ⟨rfl, rfl, ?_⟩
  refine alive_set ?_ (.inr rfl)
  intro k hk
  have := List.eq_of_mem_replicate hk
  subst this
  exact .inl rfl
theorem calm_tick {n : Int} {T : Tab} {t : Int} (h : Calm n T) : (tick T t).told = [] ∧ (tick T t).T = (beginT (passT T t)).1 ∧ (tick T t).out = (beginT (passT T t)).2 := by
  have h1 : oldT (passT T t) = (passT T t, []) := old_none fun k hk => by rcases h.alive k hk with e | e <;> rw [e] <;> decide
  have h2 : waitedT (passT T t) = ⟨passT T t, [], [], []⟩ := waited_none h.pings
  unfold tick
  rw [h1]
  simp only
  rw [h2]
  exact ⟨rfl, rfl, by simp⟩
/-- what a tick leaves: nothing open, or one ping that was sent -/
theorem calm_begin {n : Int} {T : Tab} (h : Calm n T) : (Calm n (beginT T).1 ∧ (beginT T).2 = []) ∨
    ∃ x : Int, 0 ≤ x ∧ x < 8 ∧ x ≠ n ∧ (∃ k, (beginT T).1.l[x.toNat]? = some k ∧ k.peer.status ≠ 0) ∧ (beginT T).1.self = n ∧ (beginT T).1.pings = [⟨x, T.req + 1, T.now, false⟩] ∧ Alive (beginT T).1.l ∧ (beginT T).2 = [mkMsg 6 n x (T.req + 1) (-1) (-1)] := by
  unfold beginT
  split
  · exact .inl ⟨h, rfl⟩
  · split
    · exact .inl ⟨h, rfl⟩
    · rename_i h2
      have hr := next_range T
      obtain ⟨k, h3, h4, h5, _⟩ := next_good (T := T) (by omega)
      exact .inr ⟨nextT T, by omega, by omega, by rw [← h.self]; exact h5, ⟨k, h3, h4⟩, h.self, by simp only [h.pings, List.nil_append], h.alive, by rw [h.self]⟩
theorem calm_on {n x r nw t : Int} {T : Tab} {k : KnownM} (h0 : 0 ≤ x) (h8 : x < 8) (hx : x ≠ n) (hk : T.l[x.toNat]? = some k) (hs : k.peer.status ≠ 0) (hse : T.self = n) (hp : T.pings = [⟨x, r, nw, false⟩]) (ha : Alive T.l) :
    Calm n (on T (mkMsg 7 x n r x (-1)) t).T ∧ (on T (mkMsg 7 x n r x (-1)) t).out = [] ∧ (on T (mkMsg 7 x n r x (-1)) t).told = [] := by
  have e := on_pong (T := T) (m := mkMsg 7 x n r x (-1)) (t := t) (by simp only [mkMsg]; omega) (by simp [mkMsg])
  have e2 : meetT (passT T t) (mkMsg 7 x n r x (-1)).frm = (passT T t, []) := meet_old hk hs
  rw [e2] at e
  rw [e]
  have e3 : pongedT (passT T t) (mkMsg 7 x n r x (-1)) = ({ passT T t with pings := [] }, []) := by
    unfold pongedT
    rw [if_pos (.inl rfl)]
    congr 2
    have : (passT T t).pings = [⟨x, r, nw, false⟩] := hp
    rw [this]
    simp [mkMsg]
  simp only
  rw [e3]
  refine ⟨⟨hse, rfl, ha⟩, ?_, ?_⟩ <;> first | trivial | rfl
theorem peers_alive {l : List KnownM} (h : Alive l) : ∀ p ∈ peersL l, p.status = 1 := by
  intro p hp
  simp only [peersL, List.mem_map, List.mem_filter] at hp
  obtain ⟨k, ⟨hk, h0⟩, rfl⟩ := hp
  rcases h k hk with e | e
  · simp [e] at h0
  · exact e
/-- in the middle of the answers -/
def Half (n : Int) (T0 : Tab) (out : List MsgC) (j : Nat) (T : Tab) : Prop := (j = 0 ∧ T = T0) ∨ (j = out.length ∧ Calm n T)



set_option maxRecDepth 100000 in
set_option maxHeartbeats 4000000 in
theorem law_answers (u : Int) (ap : Option Addr) (peers : List Int) (cp : Nat) (as0 : Option Addr) (steps : List Int) (cs0 : Nat) (w : World) (h0 : SlOf w ap peers) (h1 : SlOf w as0 steps) (hl0 : peers.length ≤ 1048576) (hl1 : steps.length ≤ 1048576) (hu : 0 ≤ u) :
    Calls Try.prog 7 #[.int .u64 (u), .slice (ap) (peers.length) (cp), .slice (as0) (steps.length) (cs0)] w (Ret (fun v w' => v = .bool true ∧ Ext w w')) := by
  obtain ⟨n, hne, hn0, hn8⟩ := mod_n (m := 8) hu (by omega) (by omega)
  refine calls_run (n := 144) Try.func7 rfl rfl rfl ?_
  refine Run.seq ?_
  refine Run.region ?_
  refine RL.val (x_assignB rfl) ?_
  refine RL.nil ?_
  refine Run.seq ?_
  refine Run.region ?_
  refine RL.val (x_moveI rfl) ?_
  refine RL.val (x_rem rfl rfl (by decide)) ?_
  refine RL.val (litI (c := n) (x_convI rfl ⟨_, Try.underlying27⟩ Try.underlying3) hne) ?_
  refine RL.val (x_assignI rfl) ?_
  refine RL.nil ?_
  refine Run.seq ?_
  refine Run.region ?_
  refine RL.val (x_moveI rfl) ?_
  refine RL.st rfl <| St1.call (vals := [.int .i64 (n)]) en14 rfl (new_ n _) ?_
  rintro _ w_2 (⟨hbad_6, _, _⟩ | ⟨b_1, _, rfl, hT_3, hg_4, K_5⟩)
  · exact absurd hbad_6 (by omega)
  have pg_7 : ∀ q_, tabS b_1 none q_ → w.heap.size ≤ q_ := fun q_ h => Nat.le_trans (Nat.le_refl _) ((tabS_new hg_4) q_ h)
  clear hg_4
  have K0 := (K_5 : Ext w _)
  refine RL.val (x_moveT rfl) ?_
  refine RL.val (x_extract rfl rfl) ?_
  refine RL.val (x_extract rfl rfl) ?_
  refine RL.val (x_assignP rfl) ?_
  refine RL.val (x_assignI rfl) ?_
  refine RL.nil ?_
  refine Run.seq ?_
  refine Run.seq ?_
  refine Run.region ?_
  refine RL.val (x_moveI rfl) ?_
  refine RL.val (litF (x_neI rfl rfl) (by decide)) ?_
  refine RL.val (x_moveB rfl) ?_
  refine RL.gst (wantedF1 rfl rfl rfl rfl) <| St1.val (x_moveP rfl) ?_
  refine RL.gst (wantedF1 rfl rfl rfl rfl) <| St1.val (litF (x_ptrNil Try.underlying28 rfl rfl) rfl) ?_
  refine RL.val (x_orF rfl rfl rfl) ?_
  refine RL.val (x_moveB rfl) ?_
  refine RL.gst (wantedF1 rfl rfl rfl rfl) <| St1.call (vals := []) en13 rfl (awake_ _) ?_
  rintro _ w_8 ⟨rfl, K_9⟩
  replace hT_3 := hT_3.ext K_9
  replace K0 := K0.ext K_9
  refine RL.gst (wantedF1 rfl rfl rfl rfl) <| St1.val (x_not rfl) ?_
  refine RL.val (x_orF rfl rfl rfl) ?_
  refine RL.nil ?_
  refine Run.condF rfl ?_
  refine Run.skip ?_
  refine Run.seq ?_
  refine Run.region ?_
  refine RL.val (x_assignSl rfl) ?_
  refine RL.nil ?_
  refine Run.seq ?_
  refine Run.seq ?_
  refine Run.region ?_
  refine RL.val (x_moveSl rfl) ?_
  refine RL.val (x_lenSl Try.underlying41 rfl) ?_
  refine RL.val (x_moveI rfl) ?_
  refine RL.nil ?_
  refine Run.block ?_
  refine Run.loop (ι := Nat) (fun i ρ' w' => ∃ L : List Peer, ∃ aL : Option Addr, ∃ cL : Nat, Holds ρ' [(2, .slice (as0) (steps.length) (cs0)), (7, .int .i64 (n)), (8, .pointer (some ⟨b_1, 0, none⟩)), (10, .slice (aL) ((L).length) (cL)), (42, .slice (ap) (peers.length) (cp)), (43, .int .i64 (((peers.length : Nat) : Int))), (44, .int .i64 (((i : Nat) : Int)))] ∧ Ext w w' ∧ (TabAt w' b_1 none 0 (newT n)) ∧ (OwnSl w' 23 aL cL (L)) ∧ (∀ q_, own aL q_ → ¬ tabS b_1 none q_) ∧ (∀ q_, own aL q_ → w.heap.size ≤ q_) ∧ (i ≤ peers.length) ∧ (L.length ≤ i) ∧ (∀ p ∈ L, p.status = 1)) (fun i => peers.length - i) 0 ?_ ?_
  · have ho_15 := OwnSl.nil (α := Peer) w_8 23
    refine ⟨_, _, _, ⟨rfl, rfl, rfl, rfl, rfl, rfl, rfl, trivial⟩, K0, hT_3, ho_15, (fun q_ h1 _ => own_none q_ h1), (fun q_ h1 => absurd h1 (own_none q_)), ?_, ?_, ?_⟩
    · omega
    · simp
    · simp
  clear hT_3
  clear K0
  rintro i ρ_16 w_10 ⟨L, aL, cL, hH_11, K0, hT_3, ho_12, pr_13, pr_14, hi, hLl, hall⟩ ih1
  obtain ⟨ρ₀, rfl⟩ := hH_11.ex
  clear hH_11
  refine Run.seq ?_
  refine Run.region ?_
  refine RL.val (x_ltI rfl rfl) ?_
  refine RL.nil ?_
  refine Run.seq ?_
  refine Run.cond rfl (fun hc45 => ?_) (fun hc45 => ?_)
  · try simp only [br] at hc45
    refine Run.skip ?_
    refine Run.seq ?_
    refine Run.block ?_
    refine Run.seq ?_
    refine Run.region ?_
    obtain ⟨b_17, o_18, p, hp, ha_19, hc_20⟩ := h0.el (i := i) (by first | omega | (simp only [List.length_set]; omega))
    have hc_20_lt := hc_20.lt
    replace hc_20 := hc_20.ext K0
    refine RL.val (x_idxN Try.underlying41 ty3 rfl rfl ha_19 (by first | omega | (simp only [List.length_set]; omega))) ?_
    refine RL.val (x_ldV (v := .int .i64 (p)) (y := p) ty3 rfl hc_20 rfl) ?_
    refine RL.val (x_assignI rfl) ?_
    refine RL.nil ?_
    obtain ⟨z, hze, hz0, hz8⟩ := mod_n (u := IntKind.u64.wrap p) (m := 8) (u64_nonneg p).1 (by omega) (by omega)
    refine Run.region ?_
    refine RL.val (x_moveSl rfl) ?_
    refine RL.val (x_moveI rfl) ?_
    refine RL.val (x_convI rfl ⟨_, Try.underlying3⟩ Try.underlying27) ?_
    refine RL.val (x_rem rfl rfl (by decide)) ?_
    refine RL.val (litI (c := z) (x_convI rfl ⟨_, Try.underlying27⟩ Try.underlying3) hze) ?_
    refine RL.val (x_build (cells := #[.int .i64 (z), .int .i64 (0), .int .i64 (1)]) (by kernel_rfl)) ?_
    refine RL.st rfl <| St1.buildSlice ([(⟨z, 0, 1⟩ : Peer)] : List Peer) Try.underlying32 ty23 rfl rfl (by first | decide | (simp [Enc.size])) ?_
    intro b_23 w_24 hl_27 ho_26 K_25
    have pr_28 : ∀ q_, own (some ⟨b_23, 0, none⟩) q_ → ¬ tabS b_1 none q_ := apartNew (ge_new hl_27) hT_3.own_lt
    have pr_29 : ∀ q_, own (some ⟨b_23, 0, none⟩) q_ → ¬ own aL q_ := apartNew (ge_new hl_27) ho_12.own_lt
    have pg_30 : ∀ q_, own (some ⟨b_23, 0, none⟩) q_ → w.heap.size ≤ q_ := fun q_ h => Nat.le_trans K0.size ((ge_new hl_27) q_ h)
    clear hl_27
    replace hT_3 := hT_3.ext K_25
    replace ho_12 := ho_12.ext K_25
    replace K0 := K0.ext K_25
    refine RL.st rfl <| St1.append (xs := L) (ys := ([(⟨z, 0, 1⟩ : Peer)] : List Peer)) Try.underlying32 ty23 rfl rfl rfl ho_12 ho_26.sl (by first | omega | (simp only [lr]; omega)) (by decide) ?_
    intro a_31 c_32 w_33 ho_34 K_35 hm_36 hrm_37
    have pr_38 : ∀ q_, own a_31 q_ → ¬ tabS b_1 none q_ := hm_36.apart pr_13 hT_3.own_lt
    have pr_39 : ∀ q_, own a_31 q_ → ¬ own (some ⟨b_23, 0, none⟩) q_ := hm_36.apart (fun q_ h1 h2 => pr_29 q_ h2 h1) ho_26.own_lt
    have pg_40 : ∀ q_, own a_31 q_ → w.heap.size ≤ q_ := hm_36.ge pr_14 K0.size
    replace hT_3 := hT_3.keepO K_35 (fun q_ h1 h2 => pr_13 q_ h2 h1)
    replace ho_26 := ho_26.keepO K_35 pr_29
    replace K0 := K0.new K_35 pr_14
    clear hm_36
    clear hrm_37
    refine RL.val (x_assignSl rfl) ?_
    refine RL.nil ?_
    refine Run.inBlock ?_
    refine Run.region ?_
    refine RL.val (litI (c := ((i + 1 : Nat) : Int)) (x_add rfl rfl (by omega) (by omega)) rfl) ?_
    refine RL.val (x_moveI rfl) ?_
    refine RL.nil ?_
    refine ih1 (i + 1) _ _ ?_ (by omega)
    refine ⟨_, _, _, ⟨rfl, rfl, rfl, rfl, rfl, rfl, rfl, trivial⟩, K0, hT_3, ho_34, pr_38, pg_40, ?_, ?_, ?_⟩
    · omega
    · simp only [List.length_append, List.length_singleton]; omega
    · intro y hy
      rcases List.mem_append.1 hy with hy | hy
      · exact hall y hy
      · simp only [List.mem_singleton] at hy; subst hy; rfl
  · try simp only [br] at hc45
    refine Run.exit rfl ?_
    refine Run.seq ?_
    refine Run.region ?_
    refine RL.val (x_moveP rfl) ?_
    refine RL.val (x_moveSl rfl) ?_
    refine RL.st rfl <| St1.call (vals := [.pointer (some ⟨b_1, 0, none⟩), .slice (aL) ((L).length) (cL), .int .i64 (0)]) en15 rfl (hear_ _ _ _ (newT n) _ L _ 0 _ hT_3 ho_12.sl (fun x hx _ hb => (fun q_ h1 h2 => pr_13 q_ h2 h1) _ hb ((own_sub _) x hx)) (by first | omega | simp) (by omega)) ?_
    rintro _ w_43 ⟨a_41, c_42, rfl, ho_44, hg_45, hT_46, K_47⟩
    have pr_48 : ∀ q_, own a_41 q_ → ¬ tabS b_1 none q_ := apartNew hg_45 hT_3.own_lt
    have pr_49 : ∀ q_, own a_41 q_ → ¬ own aL q_ := apartNew hg_45 ho_12.own_lt
    have pg_50 : ∀ q_, own a_41 q_ → w.heap.size ≤ q_ := fun q_ h => Nat.le_trans K0.size (hg_45 q_ h)
    clear hg_45
    replace ho_12 := ho_12.keepO K_47 pr_13
    replace K0 := K0.new K_47 pg_7
    replace hT_3 := hT_46
    clear hT_46
    refine RL.nil ?_
    have hcalm := calm_hear (t := 0) (calm_new (n := n)) hall
    refine Run.seq ?_
    refine Run.region ?_
    refine RL.val (x_assignI rfl) ?_
    refine RL.nil ?_
    refine Run.seq ?_
    refine Run.seq ?_
    refine Run.region ?_
    refine RL.val (x_moveSl rfl) ?_
    refine RL.val (x_lenSl Try.underlying41 rfl) ?_
    refine RL.val (x_moveI rfl) ?_
    refine RL.nil ?_
    refine Run.block ?_
    refine Run.loop (ι := Nat) (fun i ρ' w' => ∃ T : Tab, ∃ now : Int, ∃ alb : Option Addr, ∃ clb : Nat, Holds ρ' [(7, .int .i64 (n)), (8, .pointer (some ⟨b_1, 0, none⟩)), (13, .int .i64 (now)), (60, .slice (as0) (steps.length) (cs0)), (61, .int .i64 (((steps.length : Nat) : Int))), (62, .int .i64 (((i : Nat) : Int)))] ∧ Ext w w' ∧ (OwnSl w' 23 (aL) (cL) (L)) ∧ (OwnSl w' 23 (a_41) (c_42) ((hear (newT n) L 0).2)) ∧ (TabAt w' b_1 alb clb T) ∧ (∀ q_, tabS b_1 alb q_ → ¬ own aL q_) ∧ (∀ q_, tabS b_1 alb q_ → ¬ own a_41 q_) ∧ (∀ q_, tabS b_1 alb q_ → w.heap.size ≤ q_) ∧ (i ≤ steps.length) ∧ (0 ≤ now ∧ now ≤ 450 * (i : Int)) ∧ (Calm n T)) (fun i => steps.length - i) 0 ?_ ?_
    · refine ⟨_, _, _, _, ⟨rfl, rfl, rfl, rfl, rfl, rfl, trivial⟩, K0, ho_12, ho_44, hT_3, (fun q_ h1 h2 => pr_13 q_ h2 h1), (fun q_ h1 h2 => pr_48 q_ h2 h1), pg_7, ?_, ?_, ?_⟩
      · omega
      · omega
      · exact hcalm
    clear hT_3 ho_12 ho_44
    clear K0
    rintro i ρ_57 w_51 ⟨T, now, alb, clb, hH_52, K0, ho_12, ho_44, hO_53, pr_54, pr_55, pr_56, hi, hnow, hc⟩ ih2
    obtain ⟨ρ₀, rfl⟩ := hH_52.ex
    clear hH_52
    refine Run.seq ?_
    refine Run.region ?_
    refine RL.val (x_ltI rfl rfl) ?_
    refine RL.nil ?_
    refine Run.seq ?_
    refine Run.cond rfl (fun hc63 => ?_) (fun hc63 => ?_)
    · try simp only [br] at hc63
      refine Run.skip ?_
      refine Run.seq ?_
      refine Run.block ?_
      refine Run.seq ?_
      refine Run.region ?_
      refine RL.val (x_moveI rfl) ?_
      obtain ⟨b_58, o_59, s, hs, ha_60, hc_61⟩ := h1.el (i := i) (by first | omega | (simp only [List.length_set]; omega))
      have hc_61_lt := hc_61.lt
      replace hc_61 := hc_61.ext K0
      refine RL.val (x_idxN Try.underlying41 ty3 rfl rfl ha_60 (by first | omega | (simp only [List.length_set]; omega))) ?_
      refine RL.val (x_ldV (v := .int .i64 (s)) (y := s) ty3 rfl hc_61 rfl) ?_
      refine RL.val (x_assignI rfl) ?_
      refine RL.val (x_assignI rfl) ?_
      refine RL.nil ?_
      refine Run.seq ?_
      refine Run.seq ?_
      refine Run.region ?_
      refine RL.val (x_moveI rfl) ?_
      refine RL.val (x_gtI rfl rfl) ?_
      refine RL.nil ?_
      refine Run.cond rfl (fun hc68 => ?_) (fun hc68 => ?_)
      · try simp only [br] at hc68
        refine Run.exit rfl ?_
        refine Run.seq ?_
        refine Run.seq ?_
        have hpL := peersL_len T.l
        have hl8 := hO_53.ok.len
        refine Run.region ?_
        refine RL.val (x_moveP rfl) ?_
        refine RL.st rfl <| St1.call (vals := [.pointer (some ⟨b_1, 0, none⟩)]) en23 rfl (peers_ _ _ _ T _ hO_53.blk hO_53.ok.len) ?_
        rintro _ w_66 ⟨a_64, c_65, rfl, ho_67, hg_68, K_69⟩
        have pr_70 : ∀ q_, own a_64 q_ → ¬ own aL q_ := apartNew hg_68 ho_12.own_lt
        have pr_71 : ∀ q_, own a_64 q_ → ¬ own a_41 q_ := apartNew hg_68 ho_44.own_lt
        have pr_72 : ∀ q_, own a_64 q_ → ¬ tabS b_1 alb q_ := apartNew hg_68 hO_53.own_lt
        have pg_73 : ∀ q_, own a_64 q_ → w.heap.size ≤ q_ := fun q_ h => Nat.le_trans K0.size (hg_68 q_ h)
        clear hg_68
        replace ho_12 := ho_12.ext K_69
        replace ho_44 := ho_44.ext K_69
        replace hO_53 := hO_53.ext K_69
        replace K0 := K0.ext K_69
        refine RL.val (x_lenSl Try.underlying32 rfl) ?_
        refine RL.val (x_moveI rfl) ?_
        refine RL.nil ?_
        refine Run.block ?_
        refine Run.loop (ι := Nat) (fun j ρ' w' => Holds ρ' [(134, .slice (a_64) ((peersL T.l).length) (c_65)), (135, .int .i64 ((((peersL T.l).length : Nat) : Int))), (136, .int .i64 (((j : Nat) : Int)))] ∧ Ext w w' ∧ (OwnSl w' 23 (aL) (cL) (L)) ∧ (OwnSl w' 23 (a_41) (c_42) ((hear (newT n) L 0).2)) ∧ (TabAt w' b_1 alb clb T) ∧ (OwnSl w' 23 (a_64) (c_65) (peersL T.l)) ∧ (j ≤ (peersL T.l).length)) (fun j => (peersL T.l).length - j) 0 ?_ ?_
        · refine ⟨⟨rfl, rfl, rfl, trivial⟩, K0, ho_12, ho_44, hO_53, ho_67, ?_⟩
          · omega
        clear ho_12 ho_44 hO_53 ho_67
        clear K0
        rintro j ρ_76 w_74 ⟨hH_75, K0, ho_12, ho_44, hO_53, ho_67, hj⟩ ih3
        obtain ⟨ρ₀, rfl⟩ := hH_75.ex
        clear hH_75
        refine Run.seq ?_
        refine Run.region ?_
        refine RL.val (x_ltI rfl rfl) ?_
        refine RL.nil ?_
        refine Run.seq ?_
        refine Run.cond rfl (fun hc137 => ?_) (fun hc137 => ?_)
        · try simp only [br] at hc137
          refine Run.skip ?_
          refine Run.seq ?_
          refine Run.block ?_
          refine Run.seq ?_
          refine Run.region ?_
          obtain ⟨b_77, o_78, q, hq, ha_79, hc_80⟩ := ho_67.sl.el (i := j) (by first | omega | (simp only [List.length_set]; omega))
          refine RL.val (x_idxN Try.underlying32 ty23 rfl rfl ha_79 (by first | omega | (simp only [List.length_set]; omega))) ?_
          refine RL.val (x_ldV (v := .agg #[.int .i64 ((q).node), .int .i64 ((q).inc), .int .i64 ((q).status)]) (y := q) ty23 rfl hc_80 rfl) ?_
          refine RL.st rfl <| St1.alloc ty23 ?_
          intro b_83 w_84 hl_87 hb_86 K_85
          replace hb_86 : Blk w_84 b_83 [.int .i64 (0), .int .i64 (0), .int .i64 (0)] 23 := hb_86
          have ne_88 : b_77 < b_83 := Nat.lt_of_lt_of_le hc_80.lt hl_87
          have pr_89 : ¬ own aL b_83 := fun h => absurd (ho_12.own_lt _ h) (by omega)
          have pr_90 : ¬ own a_41 b_83 := fun h => absurd (ho_44.own_lt _ h) (by omega)
          have pr_91 : ¬ tabS b_1 alb b_83 := fun h => absurd (hO_53.own_lt _ h) (by omega)
          have pr_92 : ¬ own a_64 b_83 := fun h => absurd (ho_67.own_lt _ h) (by omega)
          have : w.heap.size ≤ b_83 := Nat.le_trans K0.size hl_87
          clear hl_87
          replace ho_12 := ho_12.ext K_85
          replace ho_44 := ho_44.ext K_85
          replace hO_53 := hO_53.ext K_85
          replace ho_67 := ho_67.ext K_85
          replace hc_80 := hc_80.ext K_85
          replace K0 := K0.ext K_85
          refine RL.st rfl <| St1.store (v := .agg #[.int .i64 ((q).node), .int .i64 ((q).inc), .int .i64 ((q).status)]) ty23 rfl rfl rfl (by simp [Value.cells, Value.oneCell']) hb_86 (by simp) ?_
          intro w_93 hb_86_ K_94
          have hb_86' : Blk w_93 b_83 [.int .i64 ((q).node), .int .i64 ((q).inc), .int .i64 ((q).status)] 23 := hb_86_
          clear hb_86_
          replace ho_12 := ho_12.keepO K_94 (fun q_ hq_ eq_ => pr_89 (by simp only [one] at eq_; rw [← eq_]; exact hq_))
          replace ho_44 := ho_44.keepO K_94 (fun q_ hq_ eq_ => pr_90 (by simp only [one] at eq_; rw [← eq_]; exact hq_))
          replace hO_53 := hO_53.keepO K_94 (fun q_ hq_ eq_ => pr_91 (by simp only [one] at eq_; rw [← eq_]; exact hq_))
          replace ho_67 := ho_67.keepO K_94 (fun q_ hq_ eq_ => pr_92 (by simp only [one] at eq_; rw [← eq_]; exact hq_))
          replace hc_80 := hc_80.keep K_94 (fun e => pr_92 (by simp only [one] at e; rw [← e]; exact (own_sub _) _ ha_79))
          replace K0 := K0.new K_94 (fun x hx => by simp only [one] at hx; omega)
          replace hb_86 := hb_86'
          clear hb_86'
          refine RL.nil ?_
          refine Run.seq ?_
          refine Run.region ?_
          refine RL.val (x_fld (o' := 2) Try.underlying23 rfl ty3 rfl rfl rfl) ?_
          refine RL.val (x_ld (v := .int .i64 ((q).status)) ty3 rfl rfl (hb_86.cl.field (i := 2) rfl)) ?_
          refine RL.val (x_neI rfl rfl) ?_
          refine RL.nil ?_
          refine Run.cond rfl (fun hc142 => ?_) (fun hc142 => ?_)
          · try simp only [br] at hc142
            exact absurd (peers_alive hc.alive q (mem_of_at hq)) hc142
          · try simp only [br] at hc142
            refine Run.skip ?_
            refine Run.inBlock ?_
            refine Run.region ?_
            refine RL.val (litI (c := ((j + 1 : Nat) : Int)) (x_add rfl rfl (by omega) (by omega)) rfl) ?_
            refine RL.val (x_moveI rfl) ?_
            refine RL.nil ?_
            refine ih3 (j + 1) _ _ ?_ (by omega)
            refine ⟨⟨rfl, rfl, rfl, trivial⟩, K0, ho_12, ho_44, hO_53, ho_67, ?_⟩
            · omega
        · try simp only [br] at hc137
          refine Run.exit rfl ?_
          refine Run.seq ?_
          refine Run.region ?_
          refine RL.val (x_assignB rfl) ?_
          refine RL.nil ?_
          refine Run.ret1 (v := .bool (true)) Try.func7 rfl rfl ?_
          exact ⟨_, rfl, rfl, K0⟩
      · try simp only [br] at hc68
        refine Run.skip ?_
        refine Run.seq ?_
        obtain ⟨d, hde, hd0, hd8⟩ := mod_n (u := IntKind.u64.wrap s) (m := 400) (u64_nonneg s).1 (by omega) (by omega)
        obtain ⟨f, hfe, hf0, hf8⟩ := quo_n s
        refine Run.region ?_
        refine RL.val (x_moveI rfl) ?_
        refine RL.val (x_moveI rfl) ?_
        refine RL.val (x_convI rfl ⟨_, Try.underlying3⟩ Try.underlying27) ?_
        refine RL.val (x_rem rfl rfl (by decide)) ?_
        refine RL.val (litI (c := d) (x_convI rfl ⟨_, Try.underlying27⟩ Try.underlying3) hde) ?_
        refine RL.val (x_add rfl rfl (by omega) (by omega)) ?_
        refine RL.val (x_assignI rfl) ?_
        refine RL.nil ?_
        refine Run.seq ?_
        have hpl : T.pings.length = 0 := by rw [hc.pings]; rfl
        obtain ⟨hto, hT1, hou⟩ := calm_tick (t := now + d) hc
        have hcp : Calm n (passT T (now + d)) := ⟨hc.self, hc.pings, hc.alive⟩
        have hcb := calm_begin hcp
        rw [← hT1, ← hou] at hcb
        have hok2 := tick_ok (t := now + d) hO_53.ok (by omega)
        refine Run.region ?_
        refine RL.val (x_moveP rfl) ?_
        refine RL.val (x_moveI rfl) ?_
        refine RL.st rfl <| St1.call (vals := [.pointer (some ⟨b_1, 0, none⟩), .int .i64 (now + d)]) en16 rfl (tick_ _ _ _ T (now + d) _ hO_53 (by omega) (by omega)) ?_
        rintro _ w_97 ⟨al_95, cl_96, a_101, c_102, a_103, c_104, rfl, hT_98, ho_105, ho_106, hg_107, hg_108, pr_109, pr_110, pr_111, hm_99, K_100⟩
        have pr_112 : ∀ q_, own a_101 q_ → ¬ own aL q_ := apartNew hg_107 ho_12.own_lt
        have pr_113 : ∀ q_, own a_101 q_ → ¬ own a_41 q_ := apartNew hg_107 ho_44.own_lt
        have pr_114 : ∀ q_, own a_101 q_ → ¬ tabS b_1 alb q_ := apartNew hg_107 hO_53.own_lt
        have pg_115 : ∀ q_, own a_101 q_ → w.heap.size ≤ q_ := fun q_ h => Nat.le_trans K0.size (hg_107 q_ h)
        have pr_116 : ∀ q_, own a_103 q_ → ¬ own aL q_ := apartNew hg_108 ho_12.own_lt
        have pr_117 : ∀ q_, own a_103 q_ → ¬ own a_41 q_ := apartNew hg_108 ho_44.own_lt
        have pr_118 : ∀ q_, own a_103 q_ → ¬ tabS b_1 alb q_ := apartNew hg_108 hO_53.own_lt
        have pg_119 : ∀ q_, own a_103 q_ → w.heap.size ≤ q_ := fun q_ h => Nat.le_trans K0.size (hg_108 q_ h)
        have pr_120 : ∀ q_, tabS b_1 al_95 q_ → ¬ own aL q_ := hm_99.apart pr_54 ho_12.own_lt
        have pr_121 : ∀ q_, tabS b_1 al_95 q_ → ¬ own a_41 q_ := hm_99.apart pr_55 ho_44.own_lt
        have pg_122 : ∀ q_, tabS b_1 al_95 q_ → w.heap.size ≤ q_ := hm_99.ge pr_56 K0.size
        replace ho_12 := ho_12.keepO K_100 (fun q_ h1 h2 => pr_54 q_ h2 h1)
        replace ho_44 := ho_44.keepO K_100 (fun q_ h1 h2 => pr_55 q_ h2 h1)
        replace K0 := K0.new K_100 pr_56
        clear hm_99
        clear hg_107 hg_108
        refine RL.val (x_moveT rfl) ?_
        refine RL.val (x_extract rfl rfl) ?_
        refine RL.val (x_extract rfl rfl) ?_
        refine RL.val (x_assignSl rfl) ?_
        refine RL.val (x_assignSl rfl) ?_
        refine RL.nil ?_
        refine Run.seq ?_
        refine Run.seq ?_
        refine Run.region ?_
        refine RL.val (x_moveSl rfl) ?_
        refine RL.val (x_lenSl Try.underlying32 rfl) ?_
        refine RL.val (x_neI rfl rfl) ?_
        refine RL.nil ?_
        refine Run.cond rfl (fun hc83 => ?_) (fun hc83 => ?_)
        · try simp only [br] at hc83
          rw [hto] at hc83; exact absurd rfl hc83
        · try simp only [br] at hc83
          refine Run.skip ?_
          refine Run.seq ?_
          refine Run.region ?_
          refine RL.val (x_moveSl rfl) ?_
          refine RL.val (x_lenSl Try.underlying34 rfl) ?_
          refine RL.val (x_moveI rfl) ?_
          refine RL.nil ?_
          refine Run.block ?_
          refine Run.loop (ι := Nat) (fun j ρ' w' => ∃ Tj : Tab, ∃ nw : Int, ∃ alj : Option Addr, ∃ clj : Nat, Holds ρ' [(7, .int .i64 (n)), (8, .pointer (some ⟨b_1, 0, none⟩)), (13, .int .i64 (nw)), (15, .int .i64 (s)), (60, .slice (as0) (steps.length) (cs0)), (61, .int .i64 (((steps.length : Nat) : Int))), (62, .int .i64 (((i : Nat) : Int))), (63, .bool (decide (((i : Nat) : Int) < ((steps.length : Nat) : Int)))), (84, .slice (a_101) (((tick T (now + d)).out).length) (c_102)), (85, .int .i64 (((((tick T (now + d)).out).length : Nat) : Int))), (86, .int .i64 (((j : Nat) : Int)))] ∧ Ext w w' ∧ (OwnSl w' 23 (aL) (cL) (L)) ∧ (OwnSl w' 23 (a_41) (c_42) ((hear (newT n) L 0).2)) ∧ (OwnSl w' 61 (a_101) (c_102) ((tick T (now + d)).out)) ∧ (OwnSl w' 23 (a_103) (c_104) ((tick T (now + d)).told)) ∧ (TabAt w' b_1 alj clj Tj) ∧ (∀ q_, tabS b_1 alj q_ → ¬ own aL q_) ∧ (∀ q_, tabS b_1 alj q_ → ¬ own a_41 q_) ∧ (∀ q_, tabS b_1 alj q_ → ¬ own a_101 q_) ∧ (∀ q_, tabS b_1 alj q_ → ¬ own a_103 q_) ∧ (∀ q_, tabS b_1 alj q_ → w.heap.size ≤ q_) ∧ (j ≤ (tick T (now + d)).out.length) ∧ (Half n (tick T (now + d)).T (tick T (now + d)).out j Tj) ∧ (now + d ≤ nw ∧ nw ≤ now + d + 50 * (j : Int))) (fun j => (tick T (now + d)).out.length - j) 0 ?_ ?_
          · refine ⟨_, _, _, _, ⟨rfl, rfl, rfl, rfl, rfl, rfl, rfl, rfl, rfl, rfl, rfl, trivial⟩, K0, ho_12, ho_44, ho_105, ho_106, hT_98, pr_120, pr_121, (fun q_ h1 h2 => pr_109 q_ h2 h1), (fun q_ h1 h2 => pr_110 q_ h2 h1), pg_122, ?_, ?_, ?_⟩
            · omega
            · exact .inl ⟨rfl, rfl⟩
            · omega
          clear ho_12 ho_44 hT_98 ho_105 ho_106
          clear K0
          rintro j ρ_131 w_123 ⟨Tj, nw, alj, clj, hH_124, K0, ho_12, ho_44, ho_105, ho_106, hO_125, pr_126, pr_127, pr_128, pr_129, pr_130, hj, hh, hnw⟩ ih4
          obtain ⟨ρ₀, rfl⟩ := hH_124.ex
          clear hH_124
          refine Run.seq ?_
          refine Run.region ?_
          refine RL.val (x_ltI rfl rfl) ?_
          refine RL.nil ?_
          refine Run.seq ?_
          refine Run.cond rfl (fun hc87 => ?_) (fun hc87 => ?_)
          · try simp only [br] at hc87
            refine Run.skip ?_
            refine Run.seq ?_
            refine Run.block ?_
            refine Run.seq ?_
            refine Run.region ?_
            obtain ⟨b_132, o_133, m, hm, ha_134, hc_135⟩ := ho_105.sl.el (i := j) (by first | omega | (simp only [List.length_set]; omega))
            refine RL.val (x_idxN Try.underlying34 ty61 rfl rfl ha_134 (by first | omega | (simp only [List.length_set]; omega))) ?_
            refine RL.val (x_ldV (v := .agg #[.int .i64 ((m).kind), .int .i64 ((m).frm), .int .i64 ((m).to), .int .i64 ((m).req), .string ((m).key), .slice ((m).entries.a) ((m).entries.len) ((m).entries.cap), .slice ((m).marks.a) ((m).marks.len) ((m).marks.cap), .slice ((m).cloud.a) ((m).cloud.len) ((m).cloud.cap), .int .i64 ((m).owner), .int .i64 ((m).part), .int .i64 ((m).n), .int .i64 ((m).rparts), .int .i64 ((m).rcopies), .int .i64 ((m).rspots), .slice ((m).members.a) ((m).members.len) ((m).members.cap), .slice ((m).peers.a) ((m).peers.len) ((m).peers.cap), .slice ((m).sums.a) ((m).sums.len) ((m).sums.cap)]) (y := m) ty61 rfl hc_135 rfl) ?_
            refine RL.st rfl <| St1.alloc ty61 ?_
            intro b_138 w_139 hl_142 hb_141 K_140
            replace hb_141 : Blk w_139 b_138 [.int .i64 (0), .int .i64 (0), .int .i64 (0), .int .i64 (0), .string (⟨#[]⟩), .slice (none) (0) (0), .slice (none) (0) (0), .slice (none) (0) (0), .int .i64 (0), .int .i64 (0), .int .i64 (0), .int .i64 (0), .int .i64 (0), .int .i64 (0), .slice (none) (0) (0), .slice (none) (0) (0), .slice (none) (0) (0)] 61 := hb_141
            have ne_143 : b_132 < b_138 := Nat.lt_of_lt_of_le hc_135.lt hl_142
            have pr_144 : ¬ own aL b_138 := fun h => absurd (ho_12.own_lt _ h) (by omega)
            have pr_145 : ¬ own a_41 b_138 := fun h => absurd (ho_44.own_lt _ h) (by omega)
            have pr_146 : ¬ own a_101 b_138 := fun h => absurd (ho_105.own_lt _ h) (by omega)
            have pr_147 : ¬ own a_103 b_138 := fun h => absurd (ho_106.own_lt _ h) (by omega)
            have pr_148 : ¬ tabS b_1 alj b_138 := fun h => absurd (hO_125.own_lt _ h) (by omega)
            have : w.heap.size ≤ b_138 := Nat.le_trans K0.size hl_142
            clear hl_142
            replace ho_12 := ho_12.ext K_140
            replace ho_44 := ho_44.ext K_140
            replace ho_105 := ho_105.ext K_140
            replace ho_106 := ho_106.ext K_140
            replace hO_125 := hO_125.ext K_140
            replace hc_135 := hc_135.ext K_140
            replace K0 := K0.ext K_140
            refine RL.st rfl <| St1.store (v := .agg #[.int .i64 ((m).kind), .int .i64 ((m).frm), .int .i64 ((m).to), .int .i64 ((m).req), .string ((m).key), .slice ((m).entries.a) ((m).entries.len) ((m).entries.cap), .slice ((m).marks.a) ((m).marks.len) ((m).marks.cap), .slice ((m).cloud.a) ((m).cloud.len) ((m).cloud.cap), .int .i64 ((m).owner), .int .i64 ((m).part), .int .i64 ((m).n), .int .i64 ((m).rparts), .int .i64 ((m).rcopies), .int .i64 ((m).rspots), .slice ((m).members.a) ((m).members.len) ((m).members.cap), .slice ((m).peers.a) ((m).peers.len) ((m).peers.cap), .slice ((m).sums.a) ((m).sums.len) ((m).sums.cap)]) ty61 rfl rfl rfl (by simp [Value.cells, Value.oneCell']) hb_141 (by simp) ?_
            intro w_149 hb_141_ K_150
            have hb_141' : Blk w_149 b_138 [.int .i64 ((m).kind), .int .i64 ((m).frm), .int .i64 ((m).to), .int .i64 ((m).req), .string ((m).key), .slice ((m).entries.a) ((m).entries.len) ((m).entries.cap), .slice ((m).marks.a) ((m).marks.len) ((m).marks.cap), .slice ((m).cloud.a) ((m).cloud.len) ((m).cloud.cap), .int .i64 ((m).owner), .int .i64 ((m).part), .int .i64 ((m).n), .int .i64 ((m).rparts), .int .i64 ((m).rcopies), .int .i64 ((m).rspots), .slice ((m).members.a) ((m).members.len) ((m).members.cap), .slice ((m).peers.a) ((m).peers.len) ((m).peers.cap), .slice ((m).sums.a) ((m).sums.len) ((m).sums.cap)] 61 := hb_141_
            clear hb_141_
            replace ho_12 := ho_12.keepO K_150 (fun q_ hq_ eq_ => pr_144 (by simp only [one] at eq_; rw [← eq_]; exact hq_))
            replace ho_44 := ho_44.keepO K_150 (fun q_ hq_ eq_ => pr_145 (by simp only [one] at eq_; rw [← eq_]; exact hq_))
            replace ho_105 := ho_105.keepO K_150 (fun q_ hq_ eq_ => pr_146 (by simp only [one] at eq_; rw [← eq_]; exact hq_))
            replace ho_106 := ho_106.keepO K_150 (fun q_ hq_ eq_ => pr_147 (by simp only [one] at eq_; rw [← eq_]; exact hq_))
            replace hO_125 := hO_125.keepO K_150 (fun q_ hq_ eq_ => pr_148 (by simp only [one] at eq_; rw [← eq_]; exact hq_))
            replace hc_135 := hc_135.keep K_150 (fun e => pr_146 (by simp only [one] at e; rw [← e]; exact (own_sub _) _ ha_134))
            replace K0 := K0.new K_150 (fun x hx => by simp only [one] at hx; omega)
            replace hb_141 := hb_141'
            clear hb_141'
            refine RL.nil ?_
            have hj0 : j = 0 := by have := hok2.2.1; omega
            have hTj : Tj = (tick T (now + d)).T := hh.elim (fun h => h.2) (fun h => by have := h.1; omega)
            obtain ⟨x, hx0, hx8, hxn, ⟨k, hk, hks⟩, hse, hpi, hal, hou2⟩ := hcb.resolve_left (fun h => by rw [h.2] at hm; cases hm)
            have hme : m = mkMsg 6 n x ((passT T (now + d)).req + 1) (-1) (-1) := by rw [hou2, hj0] at hm; exact (Option.some.inj hm).symm
            rw [← hTj] at hk hse hpi hal
            refine Run.seq ?_
            refine Run.seq ?_
            refine Run.region ?_
            refine RL.val (x_fld (o' := 0) Try.underlying61 rfl ty3 rfl rfl rfl) ?_
            refine RL.val (x_ld (v := .int .i64 ((m).kind)) ty3 rfl rfl (hb_141.cl.field (i := 0) rfl)) ?_
            refine RL.val (litF (x_neI rfl rfl) (by rw [hme]; rfl)) ?_
            refine RL.val (x_moveB rfl) ?_
            refine RL.gst (wantedF1 rfl rfl rfl rfl) <| St1.val (x_fld (o' := 8) Try.underlying61 rfl ty3 rfl rfl rfl) ?_
            refine RL.gst (wantedF1 rfl rfl rfl rfl) <| St1.val (x_ld (v := .int .i64 ((m).owner)) ty3 rfl rfl (hb_141.cl.field (i := 8) rfl)) ?_
            refine RL.gst (wantedF1 rfl rfl rfl rfl) <| St1.val (litF (x_neI rfl rfl) (by rw [hme]; rfl)) ?_
            refine RL.val (x_orF rfl rfl rfl) ?_
            refine RL.val (x_moveB rfl) ?_
            refine RL.gst (wantedF1 rfl rfl rfl rfl) <| St1.val (x_fld (o' := 2) Try.underlying61 rfl ty3 rfl rfl rfl) ?_
            refine RL.gst (wantedF1 rfl rfl rfl rfl) <| St1.val (x_ld (v := .int .i64 ((m).to)) ty3 rfl rfl (hb_141.cl.field (i := 2) rfl)) ?_
            refine RL.gst (wantedF1 rfl rfl rfl rfl) <| St1.val (x_moveI rfl) ?_
            refine RL.gst (wantedF1 rfl rfl rfl rfl) <| St1.val (litF (x_eqI rfl rfl) (by rw [hme]; simpa [mkMsg] using hxn)) ?_
            refine RL.val (x_orF rfl rfl rfl) ?_
            refine RL.nil ?_
            refine Run.condF rfl ?_
            refine Run.skip ?_
            refine Run.seq ?_
            refine Run.region ?_
            refine RL.val (x_moveI rfl) ?_
            refine RL.val (x_moveI rfl) ?_
            refine RL.val (x_convI rfl ⟨_, Try.underlying3⟩ Try.underlying27) ?_
            refine RL.val (x_quo rfl rfl (by decide)) ?_
            refine RL.val (x_convI rfl ⟨_, Try.underlying27⟩ Try.underlying3) ?_
            refine RL.val (litI (c := f) (x_rem rfl rfl (by decide)) hfe) ?_
            refine RL.val (x_add rfl rfl (by omega) (by omega)) ?_
            refine RL.val (x_assignI rfl) ?_
            refine RL.nil ?_
            refine Run.seq ?_
            refine Run.region ?_
            refine RL.val (x_moveP rfl) ?_
            refine RL.val (x_fld (o' := 2) Try.underlying61 rfl ty3 rfl rfl rfl) ?_
            refine RL.val (x_ld (v := .int .i64 ((m).to)) ty3 rfl rfl (hb_141.cl.field (i := 2) rfl)) ?_
            refine RL.val (x_moveI rfl) ?_
            refine RL.val (x_fld (o' := 3) Try.underlying61 rfl ty3 rfl rfl rfl) ?_
            refine RL.val (x_ld (v := .int .i64 ((m).req)) ty3 rfl rfl (hb_141.cl.field (i := 3) rfl)) ?_
            refine RL.val (x_fld (o' := 2) Try.underlying61 rfl ty3 rfl rfl rfl) ?_
            refine RL.val (x_ld (v := .int .i64 ((m).to)) ty3 rfl rfl (hb_141.cl.field (i := 2) rfl)) ?_
            refine RL.val (x_build (cells := #[.int .i64 (7), .int .i64 ((m).to), .int .i64 (n), .int .i64 ((m).req), .string (⟨#[]⟩), .slice (none) (0) (0), .slice (none) (0) (0), .slice (none) (0) (0), .int .i64 ((m).to), .int .i64 (0), .int .i64 (-1), .int .i64 (0), .int .i64 (0), .int .i64 (0), .slice (none) (0) (0), .slice (none) (0) (0), .slice (none) (0) (0)]) (by kernel_rfl)) ?_
            refine RL.val (x_moveI rfl) ?_
            refine RL.st rfl <| St1.call (vals := [.pointer (some ⟨b_1, 0, none⟩), .agg #[.int .i64 (7), .int .i64 ((m).to), .int .i64 (n), .int .i64 ((m).req), .string (⟨#[]⟩), .slice (none) (0) (0), .slice (none) (0) (0), .slice (none) (0) (0), .int .i64 ((m).to), .int .i64 (0), .int .i64 (-1), .int .i64 (0), .int .i64 (0), .int .i64 (0), .slice (none) (0) (0), .slice (none) (0) (0), .slice (none) (0) (0)], .int .i64 (nw + f)]) en26 rfl (on_ _ _ _ Tj (⟨7, (m).to, n, (m).req, ⟨#[]⟩, ⟨none, 0, 0⟩, ⟨none, 0, 0⟩, ⟨none, 0, 0⟩, (m).to, 0, -1, 0, 0, 0, ⟨none, 0, 0⟩, ⟨none, 0, 0⟩, ⟨none, 0, 0⟩⟩ : MsgC) (nw + f) _ hO_125 (by omega) (by rw [hpi]; simp)) ?_
            rintro _ w_153 ⟨al_151, cl_152, a_157, c_158, a_159, c_160, rfl, hT_154, ho_161, ho_162, hg_163, hg_164, pr_165, pr_166, pr_167, hm_155, K_156⟩
            have pr_168 : ∀ q_, own a_157 q_ → ¬ own aL q_ := apartNew hg_163 ho_12.own_lt
            have pr_169 : ∀ q_, own a_157 q_ → ¬ own a_41 q_ := apartNew hg_163 ho_44.own_lt
            have pr_170 : ∀ q_, own a_157 q_ → ¬ own a_101 q_ := apartNew hg_163 ho_105.own_lt
            have pr_171 : ∀ q_, own a_157 q_ → ¬ own a_103 q_ := apartNew hg_163 ho_106.own_lt
            have pr_172 : ∀ q_, own a_157 q_ → ¬ tabS b_1 alj q_ := apartNew hg_163 hO_125.own_lt
            have pr_173 : ¬ own a_157 b_138 := notNew hg_163 hb_141.lt
            have pg_174 : ∀ q_, own a_157 q_ → w.heap.size ≤ q_ := fun q_ h => Nat.le_trans K0.size (hg_163 q_ h)
            have pr_175 : ∀ q_, own a_159 q_ → ¬ own aL q_ := apartNew hg_164 ho_12.own_lt
            have pr_176 : ∀ q_, own a_159 q_ → ¬ own a_41 q_ := apartNew hg_164 ho_44.own_lt
            have pr_177 : ∀ q_, own a_159 q_ → ¬ own a_101 q_ := apartNew hg_164 ho_105.own_lt
            have pr_178 : ∀ q_, own a_159 q_ → ¬ own a_103 q_ := apartNew hg_164 ho_106.own_lt
            have pr_179 : ∀ q_, own a_159 q_ → ¬ tabS b_1 alj q_ := apartNew hg_164 hO_125.own_lt
            have pr_180 : ¬ own a_159 b_138 := notNew hg_164 hb_141.lt
            have pg_181 : ∀ q_, own a_159 q_ → w.heap.size ≤ q_ := fun q_ h => Nat.le_trans K0.size (hg_164 q_ h)
            have pr_182 : ∀ q_, tabS b_1 al_151 q_ → ¬ own aL q_ := hm_155.apart pr_126 ho_12.own_lt
            have pr_183 : ∀ q_, tabS b_1 al_151 q_ → ¬ own a_41 q_ := hm_155.apart pr_127 ho_44.own_lt
            have pr_184 : ∀ q_, tabS b_1 al_151 q_ → ¬ own a_101 q_ := hm_155.apart pr_128 ho_105.own_lt
            have pr_185 : ∀ q_, tabS b_1 al_151 q_ → ¬ own a_103 q_ := hm_155.apart pr_129 ho_106.own_lt
            have pr_186 : ¬ tabS b_1 al_151 b_138 := hm_155.not pr_148 hb_141.lt
            have pg_187 : ∀ q_, tabS b_1 al_151 q_ → w.heap.size ≤ q_ := hm_155.ge pr_130 K0.size
            replace ho_12 := ho_12.keepO K_156 (fun q_ h1 h2 => pr_126 q_ h2 h1)
            replace ho_44 := ho_44.keepO K_156 (fun q_ h1 h2 => pr_127 q_ h2 h1)
            replace ho_105 := ho_105.keepO K_156 (fun q_ h1 h2 => pr_128 q_ h2 h1)
            replace ho_106 := ho_106.keepO K_156 (fun q_ h1 h2 => pr_129 q_ h2 h1)
            replace hb_141 := hb_141.keep K_156 pr_148
            replace K0 := K0.new K_156 pr_130
            clear hm_155
            clear hg_163 hg_164
            refine RL.val (x_moveT rfl) ?_
            refine RL.val (x_extract rfl rfl) ?_
            refine RL.val (x_extract rfl rfl) ?_
            refine RL.val (x_assignSl rfl) ?_
            refine RL.val (x_assignSl rfl) ?_
            refine RL.nil ?_
            refine Run.seq ?_
            have hmsg : (⟨7, (m).to, n, (m).req, ⟨#[]⟩, ⟨none, 0, 0⟩, ⟨none, 0, 0⟩, ⟨none, 0, 0⟩, (m).to, 0, -1, 0, 0, 0, ⟨none, 0, 0⟩, ⟨none, 0, 0⟩, ⟨none, 0, 0⟩⟩ : MsgC) = mkMsg 7 x n ((passT T (now + d)).req + 1) x (-1) := by rw [hme]; rfl
            have hcn := calm_on (t := nw + f) hx0 hx8 hxn hk hks hse hpi hal
            rw [← hmsg] at hcn
            have hz1 : (on Tj (⟨7, (m).to, n, (m).req, ⟨#[]⟩, ⟨none, 0, 0⟩, ⟨none, 0, 0⟩, ⟨none, 0, 0⟩, (m).to, 0, -1, 0, 0, 0, ⟨none, 0, 0⟩, ⟨none, 0, 0⟩, ⟨none, 0, 0⟩⟩ : MsgC) (nw + f)).out.length = 0 := by rw [hcn.2.1]; rfl
            have hz2 : (on Tj (⟨7, (m).to, n, (m).req, ⟨#[]⟩, ⟨none, 0, 0⟩, ⟨none, 0, 0⟩, ⟨none, 0, 0⟩, (m).to, 0, -1, 0, 0, 0, ⟨none, 0, 0⟩, ⟨none, 0, 0⟩, ⟨none, 0, 0⟩⟩ : MsgC) (nw + f)).told.length = 0 := by rw [hcn.2.2]; rfl
            refine Run.region ?_
            refine RL.val (x_moveSl rfl) ?_
            refine RL.val (x_lenSl Try.underlying34 rfl) ?_
            refine RL.val (x_moveSl rfl) ?_
            refine RL.val (x_lenSl Try.underlying32 rfl) ?_
            refine RL.val (litI (c := (((((on Tj (⟨7, (m).to, n, (m).req, ⟨#[]⟩, ⟨none, 0, 0⟩, ⟨none, 0, 0⟩, ⟨none, 0, 0⟩, (m).to, 0, -1, 0, 0, 0, ⟨none, 0, 0⟩, ⟨none, 0, 0⟩, ⟨none, 0, 0⟩⟩ : MsgC) (nw + f)).out).length) + (((on Tj (⟨7, (m).to, n, (m).req, ⟨#[]⟩, ⟨none, 0, 0⟩, ⟨none, 0, 0⟩, ⟨none, 0, 0⟩, (m).to, 0, -1, 0, 0, 0, ⟨none, 0, 0⟩, ⟨none, 0, 0⟩, ⟨none, 0, 0⟩⟩ : MsgC) (nw + f)).told).length) : Nat) : Int)) (x_add rfl rfl (by omega) (by omega)) rfl) ?_
            refine RL.val (litF (x_neI rfl rfl) (by rw [hcn.2.1, hcn.2.2]; rfl)) ?_
            refine RL.nil ?_
            refine Run.condF rfl ?_
            refine Run.skip ?_
            refine Run.inBlock ?_
            refine Run.region ?_
            refine RL.val (litI (c := ((j + 1 : Nat) : Int)) (x_add rfl rfl (by omega) (by omega)) rfl) ?_
            refine RL.val (x_moveI rfl) ?_
            refine RL.nil ?_
            refine ih4 (j + 1) _ _ ?_ (by omega)
            refine ⟨_, _, _, _, ⟨rfl, rfl, rfl, rfl, rfl, rfl, rfl, rfl, rfl, rfl, rfl, trivial⟩, K0, ho_12, ho_44, ho_105, ho_106, hT_154, pr_182, pr_183, pr_184, pr_185, pg_187, ?_, ?_, ?_⟩
            · omega
            · exact .inr ⟨by have := hok2.2.1; omega, hcn.1⟩
            · omega
          · try simp only [br] at hc87
            refine Run.exit rfl ?_
            refine Run.inBlock ?_
            refine Run.region ?_
            refine RL.val (litI (c := ((i + 1 : Nat) : Int)) (x_add rfl rfl (by omega) (by omega)) rfl) ?_
            refine RL.val (x_moveI rfl) ?_
            refine RL.nil ?_
            have hcj : Calm n Tj := hh.elim (fun h => by
              have e : j = (tick T (now + d)).out.length := by omega
              rw [h.1] at e
              rcases hcb with h3 | ⟨x, _, _, _, _, _, _, _, h3⟩
              · rw [h.2]; exact h3.1
              · rw [h3] at e; simp at e) (fun h => h.2)
            have hj1 : j ≤ 1 := by have := hok2.2.1; omega
            refine ih2 (i + 1) _ _ ?_ (by omega)
            refine ⟨_, _, _, _, ⟨rfl, rfl, rfl, rfl, rfl, rfl, trivial⟩, K0, ho_12, ho_44, hO_125, pr_126, pr_127, pr_130, ?_, ?_, ?_⟩
            · omega
            · omega
            · exact hcj
    · try simp only [br] at hc63
      refine Run.exit rfl ?_
      refine Run.seq ?_
      refine Run.seq ?_
      have hpL := peersL_len T.l
      have hl8 := hO_53.ok.len
      refine Run.region ?_
      refine RL.val (x_moveP rfl) ?_
      refine RL.st rfl <| St1.call (vals := [.pointer (some ⟨b_1, 0, none⟩)]) en23 rfl (peers_ _ _ _ T _ hO_53.blk hO_53.ok.len) ?_
      rintro _ w_190 ⟨a_188, c_189, rfl, ho_191, hg_192, K_193⟩
      have pr_194 : ∀ q_, own a_188 q_ → ¬ own aL q_ := apartNew hg_192 ho_12.own_lt
      have pr_195 : ∀ q_, own a_188 q_ → ¬ own a_41 q_ := apartNew hg_192 ho_44.own_lt
      have pr_196 : ∀ q_, own a_188 q_ → ¬ tabS b_1 alb q_ := apartNew hg_192 hO_53.own_lt
      have pg_197 : ∀ q_, own a_188 q_ → w.heap.size ≤ q_ := fun q_ h => Nat.le_trans K0.size (hg_192 q_ h)
      clear hg_192
      replace ho_12 := ho_12.ext K_193
      replace ho_44 := ho_44.ext K_193
      replace hO_53 := hO_53.ext K_193
      replace K0 := K0.ext K_193
      refine RL.val (x_lenSl Try.underlying32 rfl) ?_
      refine RL.val (x_moveI rfl) ?_
      refine RL.nil ?_
      refine Run.block ?_
      refine Run.loop (ι := Nat) (fun j ρ' w' => Holds ρ' [(134, .slice (a_188) ((peersL T.l).length) (c_189)), (135, .int .i64 ((((peersL T.l).length : Nat) : Int))), (136, .int .i64 (((j : Nat) : Int)))] ∧ Ext w w' ∧ (OwnSl w' 23 (aL) (cL) (L)) ∧ (OwnSl w' 23 (a_41) (c_42) ((hear (newT n) L 0).2)) ∧ (TabAt w' b_1 alb clb T) ∧ (OwnSl w' 23 (a_188) (c_189) (peersL T.l)) ∧ (j ≤ (peersL T.l).length)) (fun j => (peersL T.l).length - j) 0 ?_ ?_
      · refine ⟨⟨rfl, rfl, rfl, trivial⟩, K0, ho_12, ho_44, hO_53, ho_191, ?_⟩
        · omega
      clear ho_12 ho_44 hO_53 ho_191
      clear K0
      rintro j ρ_200 w_198 ⟨hH_199, K0, ho_12, ho_44, hO_53, ho_191, hj⟩ ih5
      obtain ⟨ρ₀, rfl⟩ := hH_199.ex
      clear hH_199
      refine Run.seq ?_
      refine Run.region ?_
      refine RL.val (x_ltI rfl rfl) ?_
      refine RL.nil ?_
      refine Run.seq ?_
      refine Run.cond rfl (fun hc137 => ?_) (fun hc137 => ?_)
      · try simp only [br] at hc137
        refine Run.skip ?_
        refine Run.seq ?_
        refine Run.block ?_
        refine Run.seq ?_
        refine Run.region ?_
        obtain ⟨b_201, o_202, q, hq, ha_203, hc_204⟩ := ho_191.sl.el (i := j) (by first | omega | (simp only [List.length_set]; omega))
        refine RL.val (x_idxN Try.underlying32 ty23 rfl rfl ha_203 (by first | omega | (simp only [List.length_set]; omega))) ?_
        refine RL.val (x_ldV (v := .agg #[.int .i64 ((q).node), .int .i64 ((q).inc), .int .i64 ((q).status)]) (y := q) ty23 rfl hc_204 rfl) ?_
        refine RL.st rfl <| St1.alloc ty23 ?_
        intro b_207 w_208 hl_211 hb_210 K_209
        replace hb_210 : Blk w_208 b_207 [.int .i64 (0), .int .i64 (0), .int .i64 (0)] 23 := hb_210
        have ne_212 : b_201 < b_207 := Nat.lt_of_lt_of_le hc_204.lt hl_211
        have pr_213 : ¬ own aL b_207 := fun h => absurd (ho_12.own_lt _ h) (by omega)
        have pr_214 : ¬ own a_41 b_207 := fun h => absurd (ho_44.own_lt _ h) (by omega)
        have pr_215 : ¬ tabS b_1 alb b_207 := fun h => absurd (hO_53.own_lt _ h) (by omega)
        have pr_216 : ¬ own a_188 b_207 := fun h => absurd (ho_191.own_lt _ h) (by omega)
        have : w.heap.size ≤ b_207 := Nat.le_trans K0.size hl_211
        clear hl_211
        replace ho_12 := ho_12.ext K_209
        replace ho_44 := ho_44.ext K_209
        replace hO_53 := hO_53.ext K_209
        replace ho_191 := ho_191.ext K_209
        replace hc_204 := hc_204.ext K_209
        replace K0 := K0.ext K_209
        refine RL.st rfl <| St1.store (v := .agg #[.int .i64 ((q).node), .int .i64 ((q).inc), .int .i64 ((q).status)]) ty23 rfl rfl rfl (by simp [Value.cells, Value.oneCell']) hb_210 (by simp) ?_
        intro w_217 hb_210_ K_218
        have hb_210' : Blk w_217 b_207 [.int .i64 ((q).node), .int .i64 ((q).inc), .int .i64 ((q).status)] 23 := hb_210_
        clear hb_210_
        replace ho_12 := ho_12.keepO K_218 (fun q_ hq_ eq_ => pr_213 (by simp only [one] at eq_; rw [← eq_]; exact hq_))
        replace ho_44 := ho_44.keepO K_218 (fun q_ hq_ eq_ => pr_214 (by simp only [one] at eq_; rw [← eq_]; exact hq_))
        replace hO_53 := hO_53.keepO K_218 (fun q_ hq_ eq_ => pr_215 (by simp only [one] at eq_; rw [← eq_]; exact hq_))
        replace ho_191 := ho_191.keepO K_218 (fun q_ hq_ eq_ => pr_216 (by simp only [one] at eq_; rw [← eq_]; exact hq_))
        replace hc_204 := hc_204.keep K_218 (fun e => pr_216 (by simp only [one] at e; rw [← e]; exact (own_sub _) _ ha_203))
        replace K0 := K0.new K_218 (fun x hx => by simp only [one] at hx; omega)
        replace hb_210 := hb_210'
        clear hb_210'
        refine RL.nil ?_
        refine Run.seq ?_
        refine Run.region ?_
        refine RL.val (x_fld (o' := 2) Try.underlying23 rfl ty3 rfl rfl rfl) ?_
        refine RL.val (x_ld (v := .int .i64 ((q).status)) ty3 rfl rfl (hb_210.cl.field (i := 2) rfl)) ?_
        refine RL.val (x_neI rfl rfl) ?_
        refine RL.nil ?_
        refine Run.cond rfl (fun hc142 => ?_) (fun hc142 => ?_)
        · try simp only [br] at hc142
          exact absurd (peers_alive hc.alive q (mem_of_at hq)) hc142
        · try simp only [br] at hc142
          refine Run.skip ?_
          refine Run.inBlock ?_
          refine Run.region ?_
          refine RL.val (litI (c := ((j + 1 : Nat) : Int)) (x_add rfl rfl (by omega) (by omega)) rfl) ?_
          refine RL.val (x_moveI rfl) ?_
          refine RL.nil ?_
          refine ih5 (j + 1) _ _ ?_ (by omega)
          refine ⟨⟨rfl, rfl, rfl, trivial⟩, K0, ho_12, ho_44, hO_53, ho_191, ?_⟩
          · omega
      · try simp only [br] at hc137
        refine Run.exit rfl ?_
        refine Run.seq ?_
        refine Run.region ?_
        refine RL.val (x_assignB rfl) ?_
        refine RL.nil ?_
        refine Run.ret1 (v := .bool (true)) Try.func7 rfl rfl ?_
        exact ⟨_, rfl, rfl, K0⟩

end Go.Proofs.Ytagfdmdajmkddaa
