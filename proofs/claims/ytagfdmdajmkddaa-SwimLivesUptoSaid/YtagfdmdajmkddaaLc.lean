/-
  Layer 12's walks: Hear, old, others.
-/
import Derived.Test.YtagfdmdajmkddaaRows
import Derived.Test.YtagfdmdajmkddaaLb
namespace Go.Proofs.Ytagfdmdajmkddaa
attribute [local irreducible] St1 RL RA RT RT1 Run

open Sa
theorem hear1_bad {s : Tab × List Peer} {p : Peer} (h : mayB p = false) : hear1 s p = s := by rw [hear1, if_pos h]
theorem hear1_own {s : Tab × List Peer} {p : Peer} (h : mayB p = true) (hn : p.node = s.1.self) : hear1 s p = ((ownT s.1 p).1, s.2 ++ (ownT s.1 p).2) := by rw [hear1, if_neg (by simp [h]), if_pos hn]
theorem hear1_new {s : Tab × List Peer} {p : Peer} {k : KnownM} (h : mayB p = true) (hn : ¬ p.node = s.1.self) (hk : s.1.l[p.node.toNat]? = some k) (hg : k.peer.status = 0 ∨ greaterB p k.peer = true) : hear1 s p = (learnT s.1 p, s.2 ++ [p]) := by
  rw [hear1, if_neg (by simp [h]), if_neg hn, hk]; simp only [if_pos hg]
theorem hear1_same {s : Tab × List Peer} {p : Peer} {k : KnownM} (h : mayB p = true) (hn : ¬ p.node = s.1.self) (hk : s.1.l[p.node.toNat]? = some k) (hg : ¬ (k.peer.status = 0 ∨ greaterB p k.peer = true)) : hear1 s p = s := by
  rw [hear1, if_neg (by simp [h]), if_neg hn, hk]; simp only [if_neg hg]
theorem may_range {p : Peer} (h : mayB p = true) : (0 ≤ p.node ∧ p.node < 8) ∧ 0 ≤ p.inc ∧ p.inc ≤ 1099511627776 ∧ 1 ≤ p.status ∧ p.status ≤ 3 := by
  simp only [mayB, Bool.and_eq_true, decide_eq_true_eq] at h
  omega
theorem hear_len (T : Tab) (l : List Peer) (h : TabOk T) : ∀ i, i ≤ l.length → TabOk (tf hear1 (T, []) l i).1 ∧ (tf hear1 (T, []) l i).2.length ≤ i := by
  refine tf_ind (fun i (s : Tab × List Peer) => TabOk s.1 ∧ s.2.length ≤ i) ⟨h, by simp⟩ ?_
  rintro i x ⟨t, o⟩ hx ⟨h1, h2⟩
  simp only at h1 h2
  unfold hear1
  split
  · exact ⟨h1, by simp only; omega⟩
  · rename_i hm
    split
    · have := ownT_ok (p := x) h1
      exact ⟨this.1, by simp only [List.length_append]; omega⟩
    · split
      · exact ⟨h1, by simp only; omega⟩
      · split
        · exact ⟨learnT_ok h1 (may_range (by simpa using hm)).1, by simp only [List.length_append, List.length_singleton]; omega⟩
        · exact ⟨h1, by simp only; omega⟩
theorem old_ok (T : Tab) (h : TabOk T) : ∀ i, TabOk (rf old1 (T, []) i).1 ∧ (rf old1 (T, []) i).2.length ≤ i ∧ (rf old1 (T, []) i).1.pings = T.pings := by
  refine rf_ind (fun i (s : Tab × List Peer) => TabOk s.1 ∧ s.2.length ≤ i ∧ s.1.pings = T.pings) ⟨h, by simp, rfl⟩ ?_
  rintro i ⟨t, o⟩ ⟨h1, h2, h3⟩
  simp only at h1 h2 h3
  unfold old1
  simp only
  split
  · exact ⟨h1, by simp only; omega, h3⟩
  · rename_i k hk
    split
    · rename_i hc
      have hn := (h1.known i k hk).2.2 (by omega)
      have hl := h1.len
      have hi : i < 8 := by rw [← hl]; exact (List.getElem?_eq_some_iff.1 hk).1
      exact ⟨learnT_ok h1 (by simp only; omega), by simp only [List.length_append, List.length_singleton]; omega, h3⟩
    · exact ⟨h1, by simp only; omega, h3⟩
theorem old1_yes {s : Tab × List Peer} {n : Nat} {k : KnownM} (hk : s.1.l[n]? = some k) (h : k.peer.status = 2 ∧ 300 ≤ s.1.now - k.since) : old1 s n = (learnT s.1 { k.peer with status := 3 }, s.2 ++ [{ k.peer with status := 3 }]) := by
  rw [old1, hk]; simp only [if_pos h]
theorem old1_no {s : Tab × List Peer} {n : Nat} {k : KnownM} (hk : s.1.l[n]? = some k) (h : ¬ (k.peer.status = 2 ∧ 300 ≤ s.1.now - k.since)) : old1 s n = s := by
  rw [old1, hk]; simp only [if_neg h]
theorem oth1_yes {T : Tab} {tg : Int} {s : List Int} {n : Nat} {k : KnownM} (hk : T.l[n]? = some k) (h : (((n : Int) ≠ T.self ∧ (n : Int) ≠ tg) ∧ k.peer.status = 1) ∧ s.length < 2) : oth1 T tg s n = s ++ [(n : Int)] := by
  rw [oth1, hk]; simp only [if_pos h]
theorem oth1_no {T : Tab} {tg : Int} {s : List Int} {n : Nat} {k : KnownM} (hk : T.l[n]? = some k) (h : ¬ ((((n : Int) ≠ T.self ∧ (n : Int) ≠ tg) ∧ k.peer.status = 1) ∧ s.length < 2)) : oth1 T tg s n = s := by
  rw [oth1, hk]; simp only [if_neg h]
theorem oth_len (T : Tab) (tg : Int) : ∀ i, (rf (oth1 T tg) [] i).length ≤ 2 := by
  refine rf_ind (fun _ (s : List Int) => s.length ≤ 2) (by simp) ?_
  intro i s h
  unfold oth1
  split
  · exact h
  · split
    · simp only [List.length_append, List.length_singleton]; omega
    · exact h

theorem en11 : Enters Try.prog 11 := enters_of Try.func11 rfl (by kernel_rfl)
theorem en39 : Enters Try.prog 39 := enters_of Try.func39 rfl (by kernel_rfl)
theorem en40 : Enters Try.prog 40 := enters_of Try.func40 rfl (by kernel_rfl)
theorem en41 : Enters Try.prog 41 := enters_of Try.func41 rfl (by kernel_rfl)
theorem en42 : Enters Try.prog 42 := enters_of Try.func42 rfl (by kernel_rfl)

set_option maxRecDepth 100000 in
set_option maxHeartbeats 4000000 in
theorem hear_ (b : Nat) (al : Option Addr) (cl : Nat) (T : Tab) (a0 : Option Addr) (l : List Peer) (c0 : Nat) (t : Int) (w : World) (hT : TabAt w b al cl T) (hl0 : SlOf w a0 l) (hd0 : ∀ x, a0 = some x → l ≠ [] → ¬ tabS b al x.block) (hll : l.length ≤ 4194304) (ht : t ≤ 9223372036854775807) :
    Calls Try.prog 15 #[.pointer (some ⟨b, 0, none⟩), .slice (a0) (l.length) (c0), .int .i64 (t)] w (Ret (fun v w' => ∃ a' c', v = .slice a' (hear T l t).2.length c' ∧ OwnSl w' 23 a' c' (hear T l t).2 ∧ (∀ x, own a' x → w.heap.size ≤ x) ∧ TabAt w' b al cl (hear T l t).1 ∧ Keeps (tabS b al) w w')) := by
  have hz0 : ∀ q_, tabS b al q_ → q_ < w.heap.size → tabS b al q_ := fun _ h _ => h
  have hok := passT_ok hT.ok ht
  refine calls_run (n := 70) Try.func15 rfl rfl rfl ?_
  refine Run.seq ?_
  refine Run.region ?_
  refine RL.val (x_assignSl rfl) ?_
  refine RL.nil ?_
  refine Run.seq ?_
  refine Run.seq ?_
  refine Run.region ?_
  refine RL.val (x_moveP rfl) ?_
  refine RL.st rfl <| St1.call (vals := [.pointer (some ⟨b, 0, none⟩)]) en38 rfl (there_ _ _ _ T _ hT.blk hT.ok.len) ?_
  rintro _ w_1 ⟨rfl, K_2⟩
  replace hT := hT.ext K_2
  have K0 := (K_2 : Ext w _).to (S := (tabS b al))
  refine RL.val (x_not rfl) ?_
  refine RL.nil ?_
  refine Run.condF rfl ?_
  refine Run.skip ?_
  refine Run.seq ?_
  refine Run.region ?_
  refine RL.val (x_moveP rfl) ?_
  refine RL.val (x_moveI rfl) ?_
  refine RL.st rfl <| St1.call (vals := [.pointer (some ⟨b, 0, none⟩), .int .i64 (t)]) en39 rfl (pass_ _ _ _ T t _ hT (by omega)) ?_
  rintro _ w_3 ⟨rfl, hT_4, K_5⟩
  replace K0 := K0.trans K_5 (fun x hlt hx => hz0 x hx hlt)
  replace hT := hT_4
  clear hT_4
  refine RL.nil ?_
  refine Run.seq ?_
  refine Run.region ?_
  refine RL.val (x_assignSl rfl) ?_
  refine RL.nil ?_
  refine Run.seq ?_
  refine Run.seq ?_
  refine Run.region ?_
  refine RL.val (x_moveSl rfl) ?_
  refine RL.val (x_lenSl Try.underlying32 rfl) ?_
  refine RL.val (x_moveI rfl) ?_
  refine RL.nil ?_
  refine Run.block ?_
  refine Run.loop (ι := Nat) (fun i ρ' w' => ∃ at1 : Option Addr, ∃ ct1 : Nat, Holds ρ' [(0, .pointer (some ⟨b, 0, none⟩)), (7, .slice (at1) (((tf hear1 (passT T t, []) l i).2).length) (ct1)), (16, .slice (a0) (l.length) (c0)), (17, .int .i64 (((l.length : Nat) : Int))), (18, .int .i64 (((i : Nat) : Int)))] ∧ Keeps (tabS b al) w w' ∧ (TabAt w' b al cl ((tf hear1 (passT T t, []) l i).1)) ∧ (OwnSl w' 23 at1 ct1 ((tf hear1 (passT T t, []) l i).2)) ∧ (∀ q_, tabS b al q_ → ¬ own at1 q_) ∧ (∀ q_, tabS b al q_ → q_ < w.heap.size → (tabS b al) q_) ∧ (∀ q_, own at1 q_ → q_ < w.heap.size → (tabS b al) q_) ∧ (∀ q_, own at1 q_ → w.heap.size ≤ q_) ∧ (i ≤ l.length)) (fun i => l.length - i) 0 ?_ ?_
  · rw [tf_zero]
    have ho_14 := OwnSl.nil (α := Peer) w_3 23
    refine ⟨_, _, ⟨rfl, rfl, rfl, rfl, rfl, trivial⟩, K0, hT, ho_14, (fun q_ h1 h2 => (fun q_ h1 _ => own_none q_ h1) q_ h2 h1), hz0, (fun q_ h1 _ => absurd h1 (own_none q_)), (fun q_ h1 => absurd h1 (own_none q_)), ?_⟩
    · omega
  clear hT
  clear K0
  rintro i ρ_15 w_6 ⟨at1, ct1, hH_7, K0, hO_8, ho_9, pr_10, pr_11, pr_12, pr_13, hi⟩ ih1
  obtain ⟨ρ₀, rfl⟩ := hH_7.ex
  clear hH_7
  refine Run.seq ?_
  obtain ⟨hok1, hln⟩ := hear_len (passT T t) l hok i (by omega)
  refine Run.region ?_
  refine RL.val (x_ltI rfl rfl) ?_
  refine RL.nil ?_
  refine Run.seq ?_
  refine Run.cond rfl (fun hc19 => ?_) (fun hc19 => ?_)
  · try simp only [br] at hc19
    refine Run.skip ?_
    refine Run.seq ?_
    refine Run.block ?_
    refine Run.seq ?_
    refine Run.region ?_
    obtain ⟨b_16, o_17, p, hx, ha_18, hc_19⟩ := hl0.el (i := i) (by first | omega | (simp only [List.length_set]; omega))
    have hc_19_lt := hc_19.lt
    replace hc_19 := hc_19.keep K0 (hd0 _ ha_18 (ne_get hx))
    refine RL.val (x_idxN Try.underlying32 ty23 rfl rfl ha_18 (by first | omega | (simp only [List.length_set]; omega))) ?_
    refine RL.val (x_ldV (v := .agg #[.int .i64 ((p).node), .int .i64 ((p).inc), .int .i64 ((p).status)]) (y := p) ty23 rfl hc_19 rfl) ?_
    refine RL.st rfl <| St1.alloc ty23 ?_
    intro b_22 w_23 hl_26 hb_25 K_24
    replace hb_25 : Blk w_23 b_22 [.int .i64 (0), .int .i64 (0), .int .i64 (0)] 23 := hb_25
    have ne_27 : b_16 < b_22 := Nat.lt_of_lt_of_le hc_19.lt hl_26
    have pr_28 : ¬ tabS b al b_22 := fun h => absurd (hO_8.own_lt _ h) (by omega)
    have pr_29 : ¬ own at1 b_22 := fun h => absurd (ho_9.own_lt _ h) (by omega)
    have : w.heap.size ≤ b_22 := Nat.le_trans K0.size hl_26
    clear hl_26
    replace hO_8 := hO_8.ext K_24
    replace ho_9 := ho_9.ext K_24
    replace hc_19 := hc_19.ext K_24
    replace K0 := K0.ext K_24
    refine RL.st rfl <| St1.store (v := .agg #[.int .i64 ((p).node), .int .i64 ((p).inc), .int .i64 ((p).status)]) ty23 rfl rfl rfl (by simp [Value.cells, Value.oneCell']) hb_25 (by simp) ?_
    intro w_30 hb_25_ K_31
    have hb_25' : Blk w_30 b_22 [.int .i64 ((p).node), .int .i64 ((p).inc), .int .i64 ((p).status)] 23 := hb_25_
    clear hb_25_
    replace hO_8 := hO_8.keepO K_31 (fun q_ hq_ eq_ => pr_28 (by simp only [one] at eq_; rw [← eq_]; exact hq_))
    replace ho_9 := ho_9.keepO K_31 (fun q_ hq_ eq_ => pr_29 (by simp only [one] at eq_; rw [← eq_]; exact hq_))
    replace hc_19 := hc_19.keep K_31 (by simp only [one]; omega)
    replace K0 := K0.trans K_31 (fun x hlt hx => absurd hlt (by simp only [one] at hx; omega))
    replace hb_25 := hb_25'
    clear hb_25'
    refine RL.nil ?_
    refine Run.block ?_
    refine Run.seq ?_
    refine Run.region ?_
    refine RL.val (x_lds (cs := #[.int .i64 ((p).node), .int .i64 ((p).inc), .int .i64 ((p).status)]) ty23 rfl rfl (hb_25.cl.drop 0 3)) ?_
    refine RL.st rfl <| St1.call (vals := [.agg #[.int .i64 ((p).node), .int .i64 ((p).inc), .int .i64 ((p).status)]]) en40 rfl (may_ p _) ?_
    rintro _ w_32 ⟨rfl, K_33⟩
    replace hO_8 := hO_8.ext K_33
    replace ho_9 := ho_9.ext K_33
    replace hb_25 := hb_25.ext K_33
    replace K0 := K0.ext K_33
    refine RL.val (x_not rfl) ?_
    refine RL.val (x_assignB rfl) ?_
    refine RL.nil ?_
    refine Run.cond rfl (fun hc22 => ?_) (fun hc22 => ?_)
    · try simp only [br] at hc22
      refine Run.skip ?_
      refine Run.inBlock ?_
      refine Run.inBlock ?_
      refine Run.region ?_
      refine RL.val (litI (c := ((i + 1 : Nat) : Int)) (x_add rfl rfl (by omega) (by omega)) rfl) ?_
      refine RL.val (x_moveI rfl) ?_
      refine RL.nil ?_
      have e := (tf_succ (f := hear1) (s := (passT T t, [])) hx).trans (hear1_bad hc22)
      refine ih1 (i + 1) _ _ ?_ (by omega)
      rw [e]
      refine ⟨_, _, ⟨rfl, rfl, rfl, rfl, rfl, trivial⟩, K0, hO_8, ho_9, pr_10, pr_11, pr_12, pr_13, ?_⟩
      · omega
    · try simp only [br] at hc22
      obtain ⟨hpn, hpi, _⟩ := may_range hc22
      refine Run.seq ?_
      obtain ⟨hb34, ho34, hap34, ok34⟩ := hO_8
      have hl34 := ok34.len
      replace hb34 : Blk w_32 b (([.bool (true), .int .i64 (((tf hear1 (passT T t, []) l i).1).self), .int .i64 (((tf hear1 (passT T t, []) l i).1).now)] : List Value) ++ flat (((tf hear1 (passT T t, []) l i).1).l) ++ ([.slice (al) (((tf hear1 (passT T t, []) l i).1).pings.length) (cl), .int .i64 (((tf hear1 (passT T t, []) l i).1).req), .bool (((tf hear1 (passT T t, []) l i).1).begun), .int .i64 (((tf hear1 (passT T t, []) l i).1).last), .int .i64 (((tf hear1 (passT T t, []) l i).1).target)] : List Value)) 71 := hb34
      have ne_35 : b_22 ≠ b := fun e => pr_28 (.inl e)
      refine Run.draw' (m := 8) (by kernel_rfl) rfl ?_
      intro w_36 K_37
      replace ho_9 := ho_9.ext K_37
      replace hb_25 := hb_25.ext K_37
      replace hb34 := hb34.ext K_37
      replace ho34 := ho34.ext K_37
      replace K0 := K0.ext K_37
      refine RA.take (v := .pointer (some ⟨b_22, 0, none⟩)) 0 rfl (by kernel_rfl) rfl (by rintro _ rfl; exact (x_fld (o' := 0) Try.underlying23 rfl ty3 rfl rfl rfl)) ?_
      refine RA.take (v := .int .i64 ((p).node)) 1 rfl (by kernel_rfl) rfl (by rintro _ rfl; exact (x_ld (v := .int .i64 ((p).node)) ty3 rfl rfl (hb_25.cl.field (i := 0) rfl))) ?_
      refine RA.take (v := .pointer (some ⟨b, 0, none⟩)) 2 rfl (by kernel_rfl) rfl (by rintro _ rfl; exact (x_moveP rfl)) ?_
      refine RA.take (v := .pointer (some ⟨b, 0, none⟩)) 3 rfl (by kernel_rfl) rfl (by rintro _ rfl; exact (x_nilCheck rfl)) ?_
      refine RA.take (v := .pointer (some ⟨b, 1, none⟩)) 4 rfl (by kernel_rfl) rfl (by rintro _ rfl; exact (x_fld (o' := 1) Try.underlying71 rfl ty3 rfl rfl rfl)) ?_
      refine RA.take (v := .int .i64 (((tf hear1 (passT T t, []) l i).1).self)) 5 rfl (by kernel_rfl) rfl (by rintro _ rfl; exact (x_ld (v := .int .i64 (((tf hear1 (passT T t, []) l i).1).self)) ty3 rfl rfl (hb34.cl.field (i := 1) (seg_head rfl)))) ?_
      refine RA.take (v := .bool (((p).node) == (((tf hear1 (passT T t, []) l i).1).self))) 6 rfl (by kernel_rfl) rfl (by rintro _ rfl; exact (x_eqI rfl rfl)) ?_
      refine RA.take (v := .bool (((p).node) == (((tf hear1 (passT T t, []) l i).1).self))) 7 rfl (by kernel_rfl) rfl (by rintro _ rfl; exact (x_assignB rfl)) ?_
      refine RA.done (by kernel_rfl) ?_
      refine Run.cond rfl (fun hc26 => ?_) (fun hc26 => ?_)
      · try simp only [br] at hc26
        refine Run.region ?_
        refine RL.val (x_moveSl rfl) ?_
        refine RL.val (x_moveP rfl) ?_
        refine RL.val (x_lds (cs := #[.int .i64 ((p).node), .int .i64 ((p).inc), .int .i64 ((p).status)]) ty23 rfl rfl (hb_25.cl.drop 0 3)) ?_
        have hT_38 : TabAt w_36 b al cl ((tf hear1 (passT T t, []) l i).1) := ⟨hb34, ho34, hap34, ok34⟩
        have pt_39 : ∀ q_, tabS b al q_ → ¬ own at1 q_ := (fun q_ h1 h2 => h1.elim (fun e => (fun h2 => pr_10 _ (.inl rfl) h2) (e ▸ h2)) (fun h => (fun q_ h1 h2 => pr_10 q_ (.inr h1) h2) q_ h h2))
        have pt_40 : ¬ tabS b al b_22 := (fun h1 => h1.elim (fun e => absurd e (by omega)) (fun h => (fun h1 => pr_28 (.inr h1)) h))
        have pt_41 : ∀ q_, tabS b al q_ → q_ < w.heap.size → (tabS b al) q_ := (fun q_ h1 hlt => h1.elim (fun e => e ▸ (Or.inl rfl)) (fun h => (fun q_ h1 hlt => pr_11 q_ (.inr h1) hlt) q_ h hlt))
        clear hb34 ho34
        refine RL.st rfl <| St1.call (vals := [.pointer (some ⟨b, 0, none⟩), .agg #[.int .i64 ((p).node), .int .i64 ((p).inc), .int .i64 ((p).status)]]) en41 rfl (own_ _ _ _ ((tf hear1 (passT T t, []) l i).1) p _ hT_38 (by omega)) ?_
        rintro _ w_44 ⟨a_42, c_43, rfl, ho_45, hg_46, hT_47, K_48⟩
        have pr_49 : ∀ q_, own a_42 q_ → ¬ own at1 q_ := apartNew hg_46 ho_9.own_lt
        have pr_50 : ¬ own a_42 b_22 := notNew hg_46 hb_25.lt
        have pr_51 : ∀ q_, own a_42 q_ → ¬ tabS b al q_ := apartNew hg_46 hT_38.own_lt
        have pg_52 : ∀ q_, own a_42 q_ → q_ < w.heap.size → (tabS b al) q_ := fun q_ h hlt => absurd (Nat.le_trans K0.size (hg_46 q_ h)) (by omega)
        have pw_53 : ∀ q_, own a_42 q_ → w.heap.size ≤ q_ := fun q_ h => Nat.le_trans K0.size (hg_46 q_ h)
        clear hg_46
        replace ho_9 := ho_9.keepO K_48 (fun q_ h1 h2 => pt_39 q_ h2 h1)
        replace hb_25 := hb_25.keep K_48 pt_40
        replace K0 := K0.trans K_48 (fun x hlt hx => pt_41 x hx hlt)
        replace hT_38 := hT_47
        clear hT_47
        refine RL.st rfl <| St1.append (xs := (tf hear1 (passT T t, []) l i).2) (ys := (ownT ((tf hear1 (passT T t, []) l i).1) p).2) Try.underlying32 ty23 rfl rfl rfl ho_9 ho_45.sl (by have := (ownT_ok (p := p) hok1).2; omega) (by decide) ?_
        intro a_54 c_55 w_56 ho_57 K_58 hm_59 hrm_60
        have pr_61 : ¬ own a_54 b_22 := hm_59.not pr_29 hb_25.lt
        have pr_62 : ∀ q_, own a_54 q_ → ¬ tabS b al q_ := hm_59.apart (fun q_ h1 h2 => pt_39 q_ h2 h1) hT_38.own_lt
        have pr_63 : ∀ q_, own a_54 q_ → ¬ own a_42 q_ := hm_59.apart (fun q_ h1 h2 => pr_49 q_ h2 h1) ho_45.own_lt
        have pg_64 : ∀ q_, own a_54 q_ → q_ < w.heap.size → (tabS b al) q_ := hm_59.inS pr_12 K0.size
        have pw_65 : ∀ q_, own a_54 q_ → w.heap.size ≤ q_ := hm_59.ge pr_13 K0.size
        replace hb_25 := hb_25.keep K_58 pr_29
        replace hT_38 := hT_38.keepO K_58 pt_39
        replace ho_45 := ho_45.keepO K_58 pr_49
        replace K0 := K0.trans K_58 (fun x hlt hx => pr_12 x hx hlt)
        clear hm_59
        clear hrm_60
        refine RL.val (x_assignSl rfl) ?_
        refine RL.nil ?_
        refine Run.inBlock ?_
        refine Run.inBlock ?_
        refine Run.region ?_
        refine RL.val (litI (c := ((i + 1 : Nat) : Int)) (x_add rfl rfl (by omega) (by omega)) rfl) ?_
        refine RL.val (x_moveI rfl) ?_
        refine RL.nil ?_
        have e := (tf_succ (f := hear1) (s := (passT T t, [])) hx).trans (hear1_own hc22 hc26)
        refine ih1 (i + 1) _ _ ?_ (by omega)
        rw [e]
        refine ⟨_, _, ⟨rfl, rfl, rfl, rfl, rfl, trivial⟩, K0, hT_38, ho_57, (fun q_ h1 h2 => pr_62 q_ h2 h1), pt_41, pg_64, pw_65, ?_⟩
        · omega
      · try simp only [br] at hc26
        refine Run.seq ?_
        obtain ⟨k, hk⟩ : ∃ x_, (((tf hear1 (passT T t, []) l i).1).l)[((p).node).toNat]? = some x_ := ⟨_, List.getElem?_eq_getElem (by rw [hl34]; omega)⟩
        refine Run.drawT [] (m := 23) (by kernel_rfl) rfl ?_
        intro w_66 K_67
        replace ho_9 := ho_9.ext K_67
        replace hb_25 := hb_25.ext K_67
        replace hb34 := hb34.ext K_67
        replace ho34 := ho34.ext K_67
        replace K0 := K0.ext K_67
        refine ⟨fun w' => Blk w' b_22 [.int .i64 ((p).node), .int .i64 ((p).inc), .int .i64 ((p).status)] 23 ∧ Blk w' b (([.bool (true), .int .i64 (((tf hear1 (passT T t, []) l i).1).self), .int .i64 (((tf hear1 (passT T t, []) l i).1).now)] : List Value) ++ flat (((tf hear1 (passT T t, []) l i).1).l) ++ ([.slice (al) (((tf hear1 (passT T t, []) l i).1).pings.length) (cl), .int .i64 (((tf hear1 (passT T t, []) l i).1).req), .bool (((tf hear1 (passT T t, []) l i).1).begun), .int .i64 (((tf hear1 (passT T t, []) l i).1).last), .int .i64 (((tf hear1 (passT T t, []) l i).1).target)] : List Value)) 71 ∧ True, ?_⟩
        refine RT.takeP (v := .pointer (some ⟨b, 0, none⟩)) 0 rfl (by kernel_rfl) (.inr ⟨hb_25, hb34, trivial⟩) (fun _ => (x_moveP rfl)) ?_
        refine RT.takeP (v := .pointer (some ⟨b_22, 0, none⟩)) 1 rfl (by kernel_rfl) (.inr ⟨hb_25, hb34, trivial⟩) (fun _ => (x_fld (o' := 0) Try.underlying23 rfl ty3 rfl rfl rfl)) ?_
        refine RT.take (v := .int .i64 ((p).node)) 2 rfl (by kernel_rfl) ⟨hb_25, hb34, trivial⟩ (by rintro _ ⟨hb_25, hb34, -⟩; exact (x_ld (v := .int .i64 ((p).node)) ty3 rfl rfl (hb_25.cl.field (i := 0) rfl))) ?_
        refine RT.takeP (v := .pointer (some ⟨b, 0, none⟩)) 3 rfl (by kernel_rfl) (.inr ⟨hb_25, hb34, trivial⟩) (fun _ => (x_nilCheck rfl)) ?_
        refine RT.takeP (v := .pointer (some ⟨b, 3, none⟩)) 4 rfl (by kernel_rfl) (.inr ⟨hb_25, hb34, trivial⟩) (fun _ => (x_fld (o' := 3) Try.underlying71 rfl ty68 rfl rfl rfl)) ?_
        refine RT.takeP (v := .pointer (some ⟨b, 3 + ((p).node).toNat * 4, none⟩)) 5 rfl (by kernel_rfl) (.inr ⟨hb_25, hb34, trivial⟩) (fun _ => (x_idxA Try.underlying68 ty67 rfl rfl (by omega) (by omega))) ?_
        refine RT.takeP (v := .pointer (some ⟨b, 3 + ((p).node).toNat * 4 + 0, none⟩)) 6 rfl (by kernel_rfl) (.inr ⟨hb_25, hb34, trivial⟩) (fun _ => (x_fld (o' := 3 + ((p).node).toNat * 4 + 0) Try.underlying67 rfl ty23 rfl rfl rfl)) ?_
        refine RT.takeP (v := .pointer (some ⟨b, 3 + ((p).node).toNat * 4 + 0 + 2, none⟩)) 7 rfl (by kernel_rfl) (.inr ⟨hb_25, hb34, trivial⟩) (fun _ => (x_fld (o' := 3 + ((p).node).toNat * 4 + 0 + 2) Try.underlying23 rfl ty3 rfl rfl rfl)) ?_
        obtain ⟨k, hk⟩ : ∃ x_, (((tf hear1 (passT T t, []) l i).1).l)[((p).node).toNat]? = some x_ := ⟨_, List.getElem?_eq_getElem (by rw [hl34]; omega)⟩
        refine RT.take (v := .int .i64 (((k).peer).status)) 8 rfl (by kernel_rfl) ⟨hb_25, hb34, trivial⟩ (by rintro _ ⟨hb_25, hb34, -⟩; exact (x_ld (v := .int .i64 (((k).peer).status)) ty3 rfl rfl ((seg_cl hb34 hk).field (i := 2) rfl))) ?_
        refine RT.takeP (v := .bool ((((k).peer).status) == 0)) 9 rfl (by kernel_rfl) (.inr ⟨hb_25, hb34, trivial⟩) (fun _ => (x_eqI rfl rfl)) ?_
        refine RT.takeP (v := .bool ((((k).peer).status) == 0)) 10 rfl (by kernel_rfl) (.inr ⟨hb_25, hb34, trivial⟩) (fun _ => (x_moveB rfl)) ?_
        refine RT.gtake (v := .agg #[.int .i64 ((p).node), .int .i64 ((p).inc), .int .i64 ((p).status)]) 11 rfl (by kernel_rfl) ⟨hb_25, hb34, trivial⟩ (wantedF rfl rfl rfl rfl) (fun hg => by rintro _ ⟨hb_25, hb34, -⟩; exact (x_lds (cs := #[.int .i64 ((p).node), .int .i64 ((p).inc), .int .i64 ((p).status)]) ty23 rfl rfl (hb_25.cl.drop 0 3))) ?_
        refine RT.gtakeP (v := .pointer (some ⟨b, 0, none⟩)) 12 rfl (by kernel_rfl) (.inr ⟨hb_25, hb34, trivial⟩) (wantedF rfl rfl rfl rfl) (fun hg _ => (x_moveP rfl)) ?_
        refine RT.gtakeP (v := .pointer (some ⟨b_22, 0, none⟩)) 13 rfl (by kernel_rfl) (.inr ⟨hb_25, hb34, trivial⟩) (wantedF rfl rfl rfl rfl) (fun hg _ => (x_fld (o' := 0) Try.underlying23 rfl ty3 rfl rfl rfl)) ?_
        refine RT.gtake (v := .int .i64 ((p).node)) 14 rfl (by kernel_rfl) ⟨hb_25, hb34, trivial⟩ (wantedF rfl rfl rfl rfl) (fun hg => by rintro _ ⟨hb_25, hb34, -⟩; exact (x_ld (v := .int .i64 ((p).node)) ty3 (gvr hg) rfl (hb_25.cl.field (i := 0) rfl))) ?_
        refine RT.gtakeP (v := .pointer (some ⟨b, 0, none⟩)) 15 rfl (by kernel_rfl) (.inr ⟨hb_25, hb34, trivial⟩) (wantedF rfl rfl rfl rfl) (fun hg _ => (x_nilCheck (gvr hg))) ?_
        refine RT.gtakeP (v := .pointer (some ⟨b, 3, none⟩)) 16 rfl (by kernel_rfl) (.inr ⟨hb_25, hb34, trivial⟩) (wantedF rfl rfl rfl rfl) (fun hg _ => (x_fld (o' := 3) Try.underlying71 rfl ty68 rfl (gvr hg) rfl)) ?_
        refine RT.gtakeP (v := .pointer (some ⟨b, 3 + ((p).node).toNat * 4, none⟩)) 17 rfl (by kernel_rfl) (.inr ⟨hb_25, hb34, trivial⟩) (wantedF rfl rfl rfl rfl) (fun hg _ => (x_idxA Try.underlying68 ty67 (gvr hg) (gvr hg) (by omega) (by omega))) ?_
        refine RT.gtakeP (v := .pointer (some ⟨b, 3 + ((p).node).toNat * 4 + 0, none⟩)) 18 rfl (by kernel_rfl) (.inr ⟨hb_25, hb34, trivial⟩) (wantedF rfl rfl rfl rfl) (fun hg _ => (x_fld (o' := 3 + ((p).node).toNat * 4 + 0) Try.underlying67 rfl ty23 rfl (gvr hg) rfl)) ?_
        refine RT.gtake (v := .agg #[.int .i64 (((k).peer).node), .int .i64 (((k).peer).inc), .int .i64 (((k).peer).status)]) 19 rfl (by kernel_rfl) ⟨hb_25, hb34, trivial⟩ (wantedF rfl rfl rfl rfl) (fun hg => by rintro _ ⟨hb_25, hb34, -⟩; exact (x_lds (cs := #[.int .i64 (((k).peer).node), .int .i64 (((k).peer).inc), .int .i64 (((k).peer).status)]) ty23 (gvr hg) rfl ((seg_cl hb34 hk).drop 0 3))) ?_
        refine RT.gcall (vals := [.agg #[.int .i64 ((p).node), .int .i64 ((p).inc), .int .i64 ((p).status)], .agg #[.int .i64 (((k).peer).node), .int .i64 (((k).peer).inc), .int .i64 (((k).peer).status)]]) 20 rfl (by kernel_rfl) (wantedF rfl rfl rfl rfl) en11 (fun hg => (mcons (gvr hg) (mcons (gvr hg) mnil))) (fun hg => (greater_ p ((k).peer) _)) ?_
        intro w_68 K_69
        replace ho_9 := ho_9.ext K_69
        replace hb_25 := hb_25.ext K_69
        replace hb34 := hb34.ext K_69
        replace ho34 := ho34.ext K_69
        replace K0 := K0.ext K_69
        refine ⟨.inr ⟨hb_25, hb34, trivial⟩, ?_⟩
        refine RT.takeP (v := .bool (((((k).peer).status) == 0) || (greaterB p ((k).peer)))) 21 rfl (by kernel_rfl) (.inr ⟨hb_25, hb34, trivial⟩) (fun _ => (x_or rfl rfl rfl)) ?_
        refine RT.takeP (v := .bool (((((k).peer).status) == 0) || (greaterB p ((k).peer)))) 22 rfl (by kernel_rfl) (.inr ⟨hb_25, hb34, trivial⟩) (fun _ => (x_assignB rfl)) ?_
        refine RT.done (by kernel_rfl) ?_
        refine Run.cond rfl (fun hc39 => ?_) (fun hc39 => ?_)
        · try simp only [br] at hc39
          refine Run.region ?_
          refine RL.val (x_moveSl rfl) ?_
          refine RL.val (x_moveP rfl) ?_
          refine RL.val (x_lds (cs := #[.int .i64 ((p).node), .int .i64 ((p).inc), .int .i64 ((p).status)]) ty23 rfl rfl (hb_25.cl.drop 0 3)) ?_
          have hT_70 : TabAt w_68 b al cl ((tf hear1 (passT T t, []) l i).1) := ⟨hb34, ho34, hap34, ok34⟩
          have pt_71 : ∀ q_, tabS b al q_ → ¬ own at1 q_ := (fun q_ h1 h2 => h1.elim (fun e => (fun h2 => pr_10 _ (.inl rfl) h2) (e ▸ h2)) (fun h => (fun q_ h1 h2 => pr_10 q_ (.inr h1) h2) q_ h h2))
          have pt_72 : ¬ tabS b al b_22 := (fun h1 => h1.elim (fun e => absurd e (by omega)) (fun h => (fun h1 => pr_28 (.inr h1)) h))
          have pt_73 : ∀ q_, tabS b al q_ → q_ < w.heap.size → (tabS b al) q_ := (fun q_ h1 hlt => h1.elim (fun e => e ▸ (Or.inl rfl)) (fun h => (fun q_ h1 hlt => pr_11 q_ (.inr h1) hlt) q_ h hlt))
          clear hb34 ho34
          refine RL.st rfl <| St1.call (vals := [.pointer (some ⟨b, 0, none⟩), .agg #[.int .i64 ((p).node), .int .i64 ((p).inc), .int .i64 ((p).status)]]) en42 rfl (learn_ _ _ _ ((tf hear1 (passT T t, []) l i).1) p _ hT_70 (by first | omega | (simp only; omega))) ?_
          rintro _ w_74 ⟨rfl, hT_75, K_76⟩
          replace ho_9 := ho_9.keepO K_76 (fun q_ h1 h2 => pt_71 q_ h2 h1)
          replace hb_25 := hb_25.keep K_76 pt_72
          replace K0 := K0.trans K_76 (fun x hlt hx => pt_73 x hx hlt)
          replace hT_70 := hT_75
          clear hT_75
          refine RL.st rfl <| St1.buildSlice ([p] : List Peer) Try.underlying32 ty23 rfl rfl (by first | decide | (simp [Enc.size])) ?_
          intro b_77 w_78 hl_81 ho_80 K_79
          have pr_82 : ∀ q_, own (some ⟨b_77, 0, none⟩) q_ → ¬ own at1 q_ := apartNew (ge_new hl_81) ho_9.own_lt
          have pr_83 : ¬ own (some ⟨b_77, 0, none⟩) b_22 := notNew (ge_new hl_81) hb_25.lt
          have pr_84 : ∀ q_, own (some ⟨b_77, 0, none⟩) q_ → ¬ tabS b al q_ := apartNew (ge_new hl_81) hT_70.own_lt
          have pg_85 : ∀ q_, own (some ⟨b_77, 0, none⟩) q_ → q_ < w.heap.size → (tabS b al) q_ := fun q_ h hlt => absurd (Nat.le_trans K0.size ((ge_new hl_81) q_ h)) (by omega)
          have pw_86 : ∀ q_, own (some ⟨b_77, 0, none⟩) q_ → w.heap.size ≤ q_ := fun q_ h => Nat.le_trans K0.size ((ge_new hl_81) q_ h)
          clear hl_81
          replace ho_9 := ho_9.ext K_79
          replace hb_25 := hb_25.ext K_79
          replace hT_70 := hT_70.ext K_79
          replace K0 := K0.ext K_79
          refine RL.st rfl <| St1.append (xs := (tf hear1 (passT T t, []) l i).2) (ys := ([p] : List Peer)) Try.underlying32 ty23 rfl rfl rfl ho_9 ho_80.sl (by first | omega | (simp only [lr]; omega)) (by decide) ?_
          intro a_87 c_88 w_89 ho_90 K_91 hm_92 hrm_93
          have pr_94 : ¬ own a_87 b_22 := hm_92.not pr_29 hb_25.lt
          have pr_95 : ∀ q_, own a_87 q_ → ¬ tabS b al q_ := hm_92.apart (fun q_ h1 h2 => pt_71 q_ h2 h1) hT_70.own_lt
          have pr_96 : ∀ q_, own a_87 q_ → ¬ own (some ⟨b_77, 0, none⟩) q_ := hm_92.apart (fun q_ h1 h2 => pr_82 q_ h2 h1) ho_80.own_lt
          have pg_97 : ∀ q_, own a_87 q_ → q_ < w.heap.size → (tabS b al) q_ := hm_92.inS pr_12 K0.size
          have pw_98 : ∀ q_, own a_87 q_ → w.heap.size ≤ q_ := hm_92.ge pr_13 K0.size
          replace hb_25 := hb_25.keep K_91 pr_29
          replace hT_70 := hT_70.keepO K_91 pt_71
          replace ho_80 := ho_80.keepO K_91 pr_82
          replace K0 := K0.trans K_91 (fun x hlt hx => pr_12 x hx hlt)
          clear hm_92
          clear hrm_93
          refine RL.val (x_assignSl rfl) ?_
          refine RL.nil ?_
          refine Run.inBlock ?_
          refine Run.inBlock ?_
          refine Run.region ?_
          refine RL.val (litI (c := ((i + 1 : Nat) : Int)) (x_add rfl rfl (by omega) (by omega)) rfl) ?_
          refine RL.val (x_moveI rfl) ?_
          refine RL.nil ?_
          have e := (tf_succ (f := hear1) (s := (passT T t, [])) hx).trans (hear1_new hc22 hc26 hk hc39)
          refine ih1 (i + 1) _ _ ?_ (by omega)
          rw [e]
          refine ⟨_, _, ⟨rfl, rfl, rfl, rfl, rfl, trivial⟩, K0, hT_70, ho_90, (fun q_ h1 h2 => pr_95 q_ h2 h1), pt_73, pg_97, pw_98, ?_⟩
          · omega
        · try simp only [br] at hc39
          refine Run.skip ?_
          refine Run.inBlock ?_
          refine Run.inBlock ?_
          refine Run.region ?_
          refine RL.val (litI (c := ((i + 1 : Nat) : Int)) (x_add rfl rfl (by omega) (by omega)) rfl) ?_
          refine RL.val (x_moveI rfl) ?_
          refine RL.nil ?_
          have hT_99 : TabAt w_68 b al cl ((tf hear1 (passT T t, []) l i).1) := ⟨hb34, ho34, hap34, ok34⟩
          have pt_100 : ∀ q_, tabS b al q_ → ¬ own at1 q_ := (fun q_ h1 h2 => h1.elim (fun e => (fun h2 => pr_10 _ (.inl rfl) h2) (e ▸ h2)) (fun h => (fun q_ h1 h2 => pr_10 q_ (.inr h1) h2) q_ h h2))
          have pt_101 : ¬ tabS b al b_22 := (fun h1 => h1.elim (fun e => absurd e (by omega)) (fun h => (fun h1 => pr_28 (.inr h1)) h))
          have pt_102 : ∀ q_, tabS b al q_ → q_ < w.heap.size → (tabS b al) q_ := (fun q_ h1 hlt => h1.elim (fun e => e ▸ (Or.inl rfl)) (fun h => (fun q_ h1 hlt => pr_11 q_ (.inr h1) hlt) q_ h hlt))
          clear hb34 ho34
          have e := (tf_succ (f := hear1) (s := (passT T t, [])) hx).trans (hear1_same hc22 hc26 hk (fun h => h.elim hc39.1 (fun h => by rw [hc39.2] at h; cases h)))
          refine ih1 (i + 1) _ _ ?_ (by omega)
          rw [e]
          refine ⟨_, _, ⟨rfl, rfl, rfl, rfl, rfl, trivial⟩, K0, hT_99, ho_9, pt_100, pt_102, pr_12, pr_13, ?_⟩
          · omega
  · try simp only [br] at hc19
    refine Run.exit rfl ?_
    refine Run.seq ?_
    refine Run.region ?_
    refine RL.val (x_moveSl rfl) ?_
    refine RL.val (x_assignSl rfl) ?_
    refine RL.nil ?_
    refine Run.ret1 (v := .slice (at1) (((tf hear1 (passT T t, []) l i).2).length) (ct1)) Try.func15 rfl rfl ?_
    have hil : i = l.length := by omega
    subst hil
    exact ⟨_, rfl, at1, ct1, rfl, ho_9, fun x hx => Nat.le_of_not_lt fun hlt => pr_10 x (pr_12 x hx hlt) hx, hO_8, K0⟩

set_option maxRecDepth 100000 in
set_option maxHeartbeats 4000000 in
theorem old_ (b : Nat) (al : Option Addr) (cl : Nat) (T : Tab)  (w : World) (hT : TabAt w b al cl T) :
    Calls Try.prog 43 #[.pointer (some ⟨b, 0, none⟩)] w (Ret (fun v w' => ∃ a' c', v = .slice a' (oldT T).2.length c' ∧ OwnSl w' 23 a' c' (oldT T).2 ∧ (∀ x, own a' x → w.heap.size ≤ x) ∧ TabAt w' b al cl (oldT T).1 ∧ Keeps (tabS b al) w w')) := by
  have hz0 : ∀ q_, tabS b al q_ → q_ < w.heap.size → tabS b al q_ := fun _ h _ => h
  have hok := hT.ok
  refine calls_run (n := 40) Try.func43 rfl rfl rfl ?_
  refine Run.seq ?_
  refine Run.region ?_
  refine RL.val (x_assignSl rfl) ?_
  refine RL.nil ?_
  refine Run.seq ?_
  refine Run.region ?_
  refine RL.val (x_assignSl rfl) ?_
  refine RL.nil ?_
  refine Run.seq ?_
  refine Run.seq ?_
  refine Run.region ?_
  refine RL.val (x_moveI rfl) ?_
  refine RL.nil ?_
  refine Run.block ?_
  refine Run.loop (ι := Nat) (fun i ρ' w' => ∃ at1 : Option Addr, ∃ ct1 : Nat, Holds ρ' [(0, .pointer (some ⟨b, 0, none⟩)), (3, .slice (at1) (((rf old1 (T, []) i).2).length) (ct1)), (6, .int .i64 (((i : Nat) : Int)))] ∧ Keeps (tabS b al) w w' ∧ (TabAt w' b al cl ((rf old1 (T, []) i).1)) ∧ (OwnSl w' 23 at1 ct1 ((rf old1 (T, []) i).2)) ∧ (∀ q_, tabS b al q_ → ¬ own at1 q_) ∧ (∀ q_, tabS b al q_ → q_ < w.heap.size → (tabS b al) q_) ∧ (∀ q_, own at1 q_ → q_ < w.heap.size → (tabS b al) q_) ∧ (∀ q_, own at1 q_ → w.heap.size ≤ q_) ∧ (i ≤ 8)) (fun i => 8 - i) 0 ?_ ?_
  · rw [rf_zero]
    have ho_9 := OwnSl.nil (α := Peer) w 23
    refine ⟨_, _, ⟨rfl, rfl, rfl, trivial⟩, (Keeps.refl _ w), hT, ho_9, (fun q_ h1 h2 => (fun q_ h1 _ => own_none q_ h1) q_ h2 h1), hz0, (fun q_ h1 _ => absurd h1 (own_none q_)), (fun q_ h1 => absurd h1 (own_none q_)), ?_⟩
    · omega
  clear hT
  rintro i ρ_10 w_1 ⟨at1, ct1, hH_2, K0, hO_3, ho_4, pr_5, pr_6, pr_7, pr_8, hi⟩ ih1
  obtain ⟨ρ₀, rfl⟩ := hH_2.ex
  clear hH_2
  refine Run.seq ?_
  obtain ⟨hok1, hln, _⟩ := old_ok T hok i
  have hnw := hok1.now0
  refine Run.region ?_
  refine RL.val (x_ltI rfl rfl) ?_
  refine RL.nil ?_
  refine Run.seq ?_
  refine Run.cond rfl (fun hc7 => ?_) (fun hc7 => ?_)
  · try simp only [br] at hc7
    refine Run.skip ?_
    refine Run.seq ?_
    refine Run.block ?_
    refine Run.seq ?_
    refine Run.region ?_
    refine RL.val (x_moveI rfl) ?_
    refine RL.val (x_assignI rfl) ?_
    refine RL.nil ?_
    refine Run.seq ?_
    obtain ⟨hb11, ho11, hap11, ok11⟩ := hO_3
    have hl11 := ok11.len
    replace hb11 : Blk w_1 b (([.bool (true), .int .i64 (((rf old1 (T, []) i).1).self), .int .i64 (((rf old1 (T, []) i).1).now)] : List Value) ++ flat (((rf old1 (T, []) i).1).l) ++ ([.slice (al) (((rf old1 (T, []) i).1).pings.length) (cl), .int .i64 (((rf old1 (T, []) i).1).req), .bool (((rf old1 (T, []) i).1).begun), .int .i64 (((rf old1 (T, []) i).1).last), .int .i64 (((rf old1 (T, []) i).1).target)] : List Value)) 71 := hb11
    refine Run.region ?_
    refine RL.val (x_moveP rfl) ?_
    refine RL.val (x_moveI rfl) ?_
    refine RL.val (x_nilCheck rfl) ?_
    refine RL.val (x_fld (o' := 3) Try.underlying71 rfl ty68 rfl rfl rfl) ?_
    refine RL.val (x_idxAN Try.underlying68 ty67 rfl rfl (by omega)) ?_
    obtain ⟨k, hk⟩ : ∃ x_, (((rf old1 (T, []) i).1).l)[i]? = some x_ := ⟨_, List.getElem?_eq_getElem (by rw [hl11]; omega)⟩
    refine RL.val (x_ldV (v := .agg #[.int .i64 (((k).peer).node), .int .i64 (((k).peer).inc), .int .i64 (((k).peer).status), .int .i64 ((k).since)]) (y := k) ty67 rfl (seg_cl hb11 hk) rfl) ?_
    refine RL.st rfl <| St1.alloc ty67 ?_
    intro b_12 w_13 hl_16 hb_15 K_14
    replace hb_15 : Blk w_13 b_12 [.int .i64 (0), .int .i64 (0), .int .i64 (0), .int .i64 (0)] 67 := hb_15
    have ne_17 : b < b_12 := Nat.lt_of_lt_of_le hb11.lt hl_16
    have pr_18 : ¬ own at1 b_12 := fun h => absurd (ho_4.own_lt _ h) (by omega)
    have pr_19 : ¬ own al b_12 := fun h => absurd (ho11.own_lt _ h) (by omega)
    have : w.heap.size ≤ b_12 := Nat.le_trans K0.size hl_16
    clear hl_16
    replace ho_4 := ho_4.ext K_14
    replace hb11 := hb11.ext K_14
    replace ho11 := ho11.ext K_14
    replace K0 := K0.ext K_14
    refine RL.st rfl <| St1.store (v := .agg #[.int .i64 (((k).peer).node), .int .i64 (((k).peer).inc), .int .i64 (((k).peer).status), .int .i64 ((k).since)]) ty67 rfl rfl rfl (by simp [Value.cells, Value.oneCell']) hb_15 (by simp) ?_
    intro w_20 hb_15_ K_21
    have hb_15' : Blk w_20 b_12 [.int .i64 (((k).peer).node), .int .i64 (((k).peer).inc), .int .i64 (((k).peer).status), .int .i64 ((k).since)] 67 := hb_15_
    clear hb_15_
    replace ho_4 := ho_4.keepO K_21 (fun q_ hq_ eq_ => pr_18 (by simp only [one] at eq_; rw [← eq_]; exact hq_))
    replace hb11 := hb11.keep K_21 (by simp only [one]; omega)
    replace ho11 := ho11.keepO K_21 (fun q_ hq_ eq_ => pr_19 (by simp only [one] at eq_; rw [← eq_]; exact hq_))
    replace K0 := K0.trans K_21 (fun x hlt hx => absurd hlt (by simp only [one] at hx; omega))
    replace hb_15 := hb_15'
    clear hb_15'
    refine RL.nil ?_
    have hkn := hok1.known i k hk
    refine Run.seq ?_
    refine Run.draw' (m := 14) (by kernel_rfl) rfl ?_
    intro w_22 K_23
    replace ho_4 := ho_4.ext K_23
    replace hb11 := hb11.ext K_23
    replace ho11 := ho11.ext K_23
    replace hb_15 := hb_15.ext K_23
    replace K0 := K0.ext K_23
    refine RA.take (v := .pointer (some ⟨b_12, 0, none⟩)) 0 rfl (by kernel_rfl) rfl (by rintro _ rfl; exact (x_fld (o' := 0) Try.underlying67 rfl ty23 rfl rfl rfl)) ?_
    refine RA.take (v := .pointer (some ⟨b_12, 2, none⟩)) 1 rfl (by kernel_rfl) rfl (by rintro _ rfl; exact (x_fld (o' := 2) Try.underlying23 rfl ty3 rfl rfl rfl)) ?_
    refine RA.take (v := .int .i64 (((k).peer).status)) 2 rfl (by kernel_rfl) rfl (by rintro _ rfl; exact (x_ld (v := .int .i64 (((k).peer).status)) ty3 rfl rfl (hb_15.cl.field (i := 2) rfl))) ?_
    refine RA.take (v := .bool ((((k).peer).status) == 2)) 3 rfl (by kernel_rfl) rfl (by rintro _ rfl; exact (x_eqI rfl rfl)) ?_
    refine RA.take (v := .bool ((((k).peer).status) == 2)) 4 rfl (by kernel_rfl) rfl (by rintro _ rfl; exact (x_moveB rfl)) ?_
    refine RA.gtake (v := .pointer (some ⟨b, 0, none⟩)) 5 rfl (by kernel_rfl) rfl (wantedT rfl rfl rfl rfl) (fun hg => by rintro _ rfl; exact (x_moveP rfl)) ?_
    refine RA.gtake (v := .pointer (some ⟨b, 0, none⟩)) 6 rfl (by kernel_rfl) rfl (wantedT rfl rfl rfl rfl) (fun hg => by rintro _ rfl; exact (x_nilCheck (gvr hg))) ?_
    refine RA.gtake (v := .pointer (some ⟨b, 2, none⟩)) 7 rfl (by kernel_rfl) rfl (wantedT rfl rfl rfl rfl) (fun hg => by rintro _ rfl; exact (x_fld (o' := 2) Try.underlying71 rfl ty3 rfl (gvr hg) rfl)) ?_
    refine RA.gtake (v := .int .i64 (((rf old1 (T, []) i).1).now)) 8 rfl (by kernel_rfl) rfl (wantedT rfl rfl rfl rfl) (fun hg => by rintro _ rfl; exact (x_ld (v := .int .i64 (((rf old1 (T, []) i).1).now)) ty3 (gvr hg) rfl (hb11.cl.field (i := 2) (seg_head rfl)))) ?_
    refine RA.gtake (v := .pointer (some ⟨b_12, 3, none⟩)) 9 rfl (by kernel_rfl) rfl (wantedT rfl rfl rfl rfl) (fun hg => by rintro _ rfl; exact (x_fld (o' := 3) Try.underlying67 rfl ty3 rfl rfl rfl)) ?_
    refine RA.gtake (v := .int .i64 ((k).since)) 10 rfl (by kernel_rfl) rfl (wantedT rfl rfl rfl rfl) (fun hg => by rintro _ rfl; exact (x_ld (v := .int .i64 ((k).since)) ty3 (gvr hg) rfl (hb_15.cl.field (i := 3) rfl))) ?_
    refine RA.gtake (v := .int .i64 ((((rf old1 (T, []) i).1).now) - ((k).since))) 11 rfl (by kernel_rfl) rfl (wantedT rfl rfl rfl rfl) (fun hg => by rintro _ rfl; exact (x_sub (gvr hg) (gvr hg) (by omega) (by omega))) ?_
    refine RA.gtake (v := .bool (decide (300 ≤ ((((rf old1 (T, []) i).1).now) - ((k).since))))) 12 rfl (by kernel_rfl) rfl (wantedT rfl rfl rfl rfl) (fun hg => by rintro _ rfl; exact (x_geI (gvr hg) rfl)) ?_
    refine RA.take (v := .bool (((((k).peer).status) == 2) && (decide (300 ≤ ((((rf old1 (T, []) i).1).now) - ((k).since)))))) 13 rfl (by kernel_rfl) rfl (by rintro _ rfl; exact (x_and rfl rfl rfl)) ?_
    refine RA.done (by kernel_rfl) ?_
    refine Run.cond rfl (fun hc28 => ?_) (fun hc28 => ?_)
    · try simp only [br] at hc28
      refine Run.seq ?_
      refine Run.region ?_
      refine RL.val (x_fld (o' := 0) Try.underlying67 rfl ty23 rfl rfl rfl) ?_
      refine RL.val (x_fld (o' := 2) Try.underlying23 rfl ty3 rfl rfl rfl) ?_
      refine RL.st rfl <| St1.store (v := .int .i64 (3)) ty3 rfl rfl rfl (by simp [Value.cells, Value.oneCell']) hb_15 (by simp) ?_
      intro w_24 hb_15_ K_25
      have hb_15' : Blk w_24 b_12 [.int .i64 (((k).peer).node), .int .i64 (((k).peer).inc), .int .i64 (3), .int .i64 ((k).since)] 67 := hb_15_
      clear hb_15_
      replace ho_4 := ho_4.keepO K_25 (fun q_ hq_ eq_ => pr_18 (by simp only [one] at eq_; rw [← eq_]; exact hq_))
      replace hb11 := hb11.keep K_25 (by simp only [one]; omega)
      replace ho11 := ho11.keepO K_25 (fun q_ hq_ eq_ => pr_19 (by simp only [one] at eq_; rw [← eq_]; exact hq_))
      replace K0 := K0.trans K_25 (fun x hlt hx => absurd hlt (by simp only [one] at hx; omega))
      replace hb_15 := hb_15'
      clear hb_15'
      refine RL.nil ?_
      have hkn2 := hkn.2.2 (by omega)
      refine Run.region ?_
      refine RL.val (x_moveSl rfl) ?_
      refine RL.val (x_moveP rfl) ?_
      refine RL.val (x_fld (o' := 0) Try.underlying67 rfl ty23 rfl rfl rfl) ?_
      refine RL.val (x_lds (cs := #[.int .i64 (((k).peer).node), .int .i64 (((k).peer).inc), .int .i64 (3)]) ty23 rfl rfl (hb_15.cl.drop 0 3)) ?_
      have hT_26 : TabAt w_24 b al cl ((rf old1 (T, []) i).1) := ⟨hb11, ho11, hap11, ok11⟩
      have pt_27 : ∀ q_, tabS b al q_ → ¬ own at1 q_ := (fun q_ h1 h2 => h1.elim (fun e => (fun h2 => pr_5 _ (.inl rfl) h2) (e ▸ h2)) (fun h => (fun q_ h1 h2 => pr_5 q_ (.inr h1) h2) q_ h h2))
      have pt_28 : ¬ tabS b al b_12 := (fun h1 => h1.elim (fun e => absurd e (by omega)) (fun h => pr_19 h))
      have pt_29 : ∀ q_, tabS b al q_ → q_ < w.heap.size → (tabS b al) q_ := (fun q_ h1 hlt => h1.elim (fun e => e ▸ (Or.inl rfl)) (fun h => (fun q_ h1 hlt => pr_6 q_ (.inr h1) hlt) q_ h hlt))
      clear hb11 ho11
      refine RL.st rfl <| St1.call (vals := [.pointer (some ⟨b, 0, none⟩), .agg #[.int .i64 (((k).peer).node), .int .i64 (((k).peer).inc), .int .i64 (3)]]) en42 rfl (learn_ _ _ _ ((rf old1 (T, []) i).1) (⟨((k).peer).node, ((k).peer).inc, 3⟩ : Peer) _ hT_26 (by first | omega | (simp only; omega))) ?_
      rintro _ w_30 ⟨rfl, hT_31, K_32⟩
      replace ho_4 := ho_4.keepO K_32 (fun q_ h1 h2 => pt_27 q_ h2 h1)
      replace hb_15 := hb_15.keep K_32 pt_28
      replace K0 := K0.trans K_32 (fun x hlt hx => pt_29 x hx hlt)
      replace hT_26 := hT_31
      clear hT_31
      refine RL.st rfl <| St1.buildSlice ([(⟨((k).peer).node, ((k).peer).inc, 3⟩ : Peer)] : List Peer) Try.underlying32 ty23 rfl rfl (by first | decide | (simp [Enc.size])) ?_
      intro b_33 w_34 hl_37 ho_36 K_35
      have pr_38 : ∀ q_, own (some ⟨b_33, 0, none⟩) q_ → ¬ own at1 q_ := apartNew (ge_new hl_37) ho_4.own_lt
      have pr_39 : ¬ own (some ⟨b_33, 0, none⟩) b_12 := notNew (ge_new hl_37) hb_15.lt
      have pr_40 : ∀ q_, own (some ⟨b_33, 0, none⟩) q_ → ¬ tabS b al q_ := apartNew (ge_new hl_37) hT_26.own_lt
      have pg_41 : ∀ q_, own (some ⟨b_33, 0, none⟩) q_ → q_ < w.heap.size → (tabS b al) q_ := fun q_ h hlt => absurd (Nat.le_trans K0.size ((ge_new hl_37) q_ h)) (by omega)
      have pw_42 : ∀ q_, own (some ⟨b_33, 0, none⟩) q_ → w.heap.size ≤ q_ := fun q_ h => Nat.le_trans K0.size ((ge_new hl_37) q_ h)
      clear hl_37
      replace ho_4 := ho_4.ext K_35
      replace hb_15 := hb_15.ext K_35
      replace hT_26 := hT_26.ext K_35
      replace K0 := K0.ext K_35
      refine RL.st rfl <| St1.append (xs := (rf old1 (T, []) i).2) (ys := ([(⟨((k).peer).node, ((k).peer).inc, 3⟩ : Peer)] : List Peer)) Try.underlying32 ty23 rfl rfl rfl ho_4 ho_36.sl (by first | omega | (simp only [lr]; omega)) (by decide) ?_
      intro a_43 c_44 w_45 ho_46 K_47 hm_48 hrm_49
      have pr_50 : ¬ own a_43 b_12 := hm_48.not pr_18 hb_15.lt
      have pr_51 : ∀ q_, own a_43 q_ → ¬ tabS b al q_ := hm_48.apart (fun q_ h1 h2 => pt_27 q_ h2 h1) hT_26.own_lt
      have pr_52 : ∀ q_, own a_43 q_ → ¬ own (some ⟨b_33, 0, none⟩) q_ := hm_48.apart (fun q_ h1 h2 => pr_38 q_ h2 h1) ho_36.own_lt
      have pg_53 : ∀ q_, own a_43 q_ → q_ < w.heap.size → (tabS b al) q_ := hm_48.inS pr_7 K0.size
      have pw_54 : ∀ q_, own a_43 q_ → w.heap.size ≤ q_ := hm_48.ge pr_8 K0.size
      replace hb_15 := hb_15.keep K_47 pr_18
      replace hT_26 := hT_26.keepO K_47 pt_27
      replace ho_36 := ho_36.keepO K_47 pr_38
      replace K0 := K0.trans K_47 (fun x hlt hx => pr_7 x hx hlt)
      clear hm_48
      clear hrm_49
      refine RL.val (x_assignSl rfl) ?_
      refine RL.nil ?_
      refine Run.inBlock ?_
      refine Run.region ?_
      refine RL.val (litI (c := ((i + 1 : Nat) : Int)) (x_add rfl rfl (by omega) (by omega)) rfl) ?_
      refine RL.val (x_moveI rfl) ?_
      refine RL.nil ?_
      have e := (rf_succ old1 (T, []) i).trans (old1_yes hk hc28)
      refine ih1 (i + 1) _ _ ?_ (by omega)
      rw [e]
      refine ⟨_, _, ⟨rfl, rfl, rfl, trivial⟩, K0, hT_26, ho_46, (fun q_ h1 h2 => pr_51 q_ h2 h1), pt_29, pg_53, pw_54, ?_⟩
      · omega
    · try simp only [br] at hc28
      refine Run.skip ?_
      refine Run.inBlock ?_
      refine Run.region ?_
      refine RL.val (litI (c := ((i + 1 : Nat) : Int)) (x_add rfl rfl (by omega) (by omega)) rfl) ?_
      refine RL.val (x_moveI rfl) ?_
      refine RL.nil ?_
      have hT_55 : TabAt w_22 b al cl ((rf old1 (T, []) i).1) := ⟨hb11, ho11, hap11, ok11⟩
      have pt_56 : ∀ q_, tabS b al q_ → ¬ own at1 q_ := (fun q_ h1 h2 => h1.elim (fun e => (fun h2 => pr_5 _ (.inl rfl) h2) (e ▸ h2)) (fun h => (fun q_ h1 h2 => pr_5 q_ (.inr h1) h2) q_ h h2))
      have pt_57 : ¬ tabS b al b_12 := (fun h1 => h1.elim (fun e => absurd e (by omega)) (fun h => pr_19 h))
      have pt_58 : ∀ q_, tabS b al q_ → q_ < w.heap.size → (tabS b al) q_ := (fun q_ h1 hlt => h1.elim (fun e => e ▸ (Or.inl rfl)) (fun h => (fun q_ h1 hlt => pr_6 q_ (.inr h1) hlt) q_ h hlt))
      clear hb11 ho11
      have e := (rf_succ old1 (T, []) i).trans (old1_no hk (by omega))
      refine ih1 (i + 1) _ _ ?_ (by omega)
      rw [e]
      refine ⟨_, _, ⟨rfl, rfl, rfl, trivial⟩, K0, hT_55, ho_4, pt_56, pt_58, pr_7, pr_8, ?_⟩
      · omega
  · try simp only [br] at hc7
    refine Run.exit rfl ?_
    refine Run.seq ?_
    refine Run.region ?_
    refine RL.val (x_moveSl rfl) ?_
    refine RL.val (x_assignSl rfl) ?_
    refine RL.nil ?_
    refine Run.ret1 (v := .slice (at1) (((rf old1 (T, []) i).2).length) (ct1)) Try.func43 rfl rfl ?_
    have hil : i = 8 := by omega
    subst hil
    exact ⟨_, rfl, at1, ct1, rfl, ho_4, fun x hx => Nat.le_of_not_lt fun hlt => pr_5 x (pr_7 x hx hlt) hx, hO_3, K0⟩

set_option maxRecDepth 100000 in
set_option maxHeartbeats 4000000 in
theorem others_ (b : Nat) (al : Option Addr) (cl : Nat) (T : Tab) (tg : Int) (w : World) (hb : Blk w b (tabCells T al cl) 71) (hl8 : T.l.length = 8) :
    Calls Try.prog 62 #[.pointer (some ⟨b, 0, none⟩), .int .i64 (tg)] w (Ret (fun v w' => ∃ a' c', v = .slice a' (othersT T tg).length c' ∧ OwnSl w' 3 a' c' (othersT T tg) ∧ (∀ b, own a' b → w.heap.size ≤ b) ∧ Ext w w')) := by
  replace hb : Blk w b (([.bool (true), .int .i64 (T.self), .int .i64 (T.now)] : List Value) ++ flat T.l ++ ([.slice (al) (T.pings.length) (cl), .int .i64 (T.req), .bool (T.begun), .int .i64 (T.last), .int .i64 (T.target)] : List Value)) 71 := hb
  refine calls_run (n := 44) Try.func62 rfl rfl rfl ?_
  refine Run.seq ?_
  refine Run.region ?_
  refine RL.val (x_assignSl rfl) ?_
  refine RL.nil ?_
  refine Run.seq ?_
  refine Run.region ?_
  refine RL.val (x_assignSl rfl) ?_
  refine RL.nil ?_
  refine Run.seq ?_
  refine Run.seq ?_
  refine Run.region ?_
  refine RL.val (x_moveP rfl) ?_
  refine RL.val (x_nilCheck rfl) ?_
  refine RL.val (x_fld (o' := 3) Try.underlying71 rfl ty68 rfl rfl rfl) ?_
  refine RL.val (x_lds (cs := (flat T.l).toArray) ty68 rfl (arr_size hl8 rfl) (seg_arr hb)) ?_
  refine RL.val (x_moveI rfl) ?_
  refine RL.nil ?_
  refine Run.block ?_
  refine Run.loop (ι := Nat) (fun i ρ' w' => ∃ ah : Option Addr, ∃ ch : Nat, Holds ρ' [(0, .pointer (some ⟨b, 0, none⟩)), (1, .int .i64 (tg)), (5, .slice (ah) ((rf (oth1 T tg) [] i).length) (ch)), (11, .agg (flat T.l).toArray), (12, .int .i64 (((i : Nat) : Int)))] ∧ Ext w w' ∧ (Blk w' b (([.bool (true), .int .i64 (T.self), .int .i64 (T.now)] : List Value) ++ flat T.l ++ ([.slice (al) (T.pings.length) (cl), .int .i64 (T.req), .bool (T.begun), .int .i64 (T.last), .int .i64 (T.target)] : List Value)) 71) ∧ (OwnSl w' 3 ah ch (rf (oth1 T tg) [] i)) ∧ (¬ own ah b) ∧ (∀ q_, own ah q_ → w.heap.size ≤ q_) ∧ (i ≤ 8)) (fun i => 8 - i) 0 ?_ ?_
  · rw [rf_zero]
    have ho_6 := OwnSl.nil (α := Int) w 3
    refine ⟨_, _, ⟨rfl, rfl, rfl, rfl, rfl, trivial⟩, (Keeps.refl _ w), hb, ho_6, (own_none b), (fun q_ h1 => absurd h1 (own_none q_)), ?_⟩
    · omega
  clear hb
  rintro i ρ_7 w_1 ⟨ah, ch, hH_2, K0, hb, ho_3, pr_4, pr_5, hi⟩ ih1
  obtain ⟨ρ₀, rfl⟩ := hH_2.ex
  clear hH_2
  refine Run.seq ?_
  have hln := oth_len T tg i
  refine Run.region ?_
  refine RL.val (x_ltI rfl rfl) ?_
  refine RL.nil ?_
  refine Run.seq ?_
  refine Run.cond rfl (fun hc13 => ?_) (fun hc13 => ?_)
  · try simp only [br] at hc13
    refine Run.skip ?_
    refine Run.seq ?_
    refine Run.block ?_
    refine Run.seq ?_
    refine Run.region ?_
    refine RL.val (x_moveI rfl) ?_
    obtain ⟨k, hk⟩ : ∃ x_, (T.l)[i]? = some x_ := ⟨_, List.getElem?_eq_getElem (by rw [hl8]; omega)⟩
    refine RL.val (x_idxV (v := .agg #[.int .i64 (((k).peer).node), .int .i64 (((k).peer).inc), .int .i64 (((k).peer).status), .int .i64 ((k).since)]) (y := k) Try.underlying68 ty67 rfl rfl (by omega) hk rfl rfl) ?_
    refine RL.st rfl <| St1.alloc ty67 ?_
    intro b_8 w_9 hl_12 hb_11 K_10
    replace hb_11 : Blk w_9 b_8 [.int .i64 (0), .int .i64 (0), .int .i64 (0), .int .i64 (0)] 67 := hb_11
    have ne_13 : b < b_8 := Nat.lt_of_lt_of_le hb.lt hl_12
    have pr_14 : ¬ own ah b_8 := fun h => absurd (ho_3.own_lt _ h) (by omega)
    have : w.heap.size ≤ b_8 := Nat.le_trans K0.size hl_12
    clear hl_12
    replace hb := hb.ext K_10
    replace ho_3 := ho_3.ext K_10
    replace K0 := K0.ext K_10
    refine RL.val (x_assignI rfl) ?_
    refine RL.st rfl <| St1.store (v := .agg #[.int .i64 (((k).peer).node), .int .i64 (((k).peer).inc), .int .i64 (((k).peer).status), .int .i64 ((k).since)]) ty67 rfl rfl rfl (by simp [Value.cells, Value.oneCell']) hb_11 (by simp) ?_
    intro w_15 hb_11_ K_16
    have hb_11' : Blk w_15 b_8 [.int .i64 (((k).peer).node), .int .i64 (((k).peer).inc), .int .i64 (((k).peer).status), .int .i64 ((k).since)] 67 := hb_11_
    clear hb_11_
    replace hb := hb.keep K_16 (by simp only [one]; omega)
    replace ho_3 := ho_3.keepO K_16 (fun q_ hq_ eq_ => pr_14 (by simp only [one] at eq_; rw [← eq_]; exact hq_))
    replace K0 := K0.new K_16 (fun x hx => by simp only [one] at hx; omega)
    replace hb_11 := hb_11'
    clear hb_11'
    refine RL.nil ?_
    refine Run.seq ?_
    refine Run.region ?_
    refine RL.val (x_moveI rfl) ?_
    refine RL.val (x_moveP rfl) ?_
    refine RL.val (x_nilCheck rfl) ?_
    refine RL.val (x_fld (o' := 1) Try.underlying71 rfl ty3 rfl rfl rfl) ?_
    refine RL.val (x_ld (v := .int .i64 (T.self)) ty3 rfl rfl (hb.cl.field (i := 1) (seg_head rfl))) ?_
    refine RL.val (x_neI rfl rfl) ?_
    refine RL.val (x_moveB rfl) ?_
    refine RL.gval (wantedT rfl rfl rfl rfl) (fun hg => (x_moveI rfl)) ?_
    refine RL.gval (wantedT rfl rfl rfl rfl) (fun hg => (x_moveI rfl)) ?_
    refine RL.gval (wantedT rfl rfl rfl rfl) (fun hg => (x_neI (gvr hg) (gvr hg))) ?_
    refine RL.val (x_and rfl rfl rfl) ?_
    refine RL.val (x_moveB rfl) ?_
    refine RL.gval (wantedT rfl rfl rfl rfl) (fun hg => (x_fld (o' := 0) Try.underlying67 rfl ty23 rfl rfl rfl)) ?_
    refine RL.gval (wantedT rfl rfl rfl rfl) (fun hg => (x_fld (o' := 2) Try.underlying23 rfl ty3 rfl (gvr hg) rfl)) ?_
    refine RL.gval (wantedT rfl rfl rfl rfl) (fun hg => (x_ld (v := .int .i64 (((k).peer).status)) ty3 (gvr hg) rfl (hb_11.cl.field (i := 2) rfl))) ?_
    refine RL.gval (wantedT rfl rfl rfl rfl) (fun hg => (x_eqI (gvr hg) rfl)) ?_
    refine RL.val (x_and rfl rfl rfl) ?_
    refine RL.val (x_moveB rfl) ?_
    refine RL.gval (wantedT rfl rfl rfl rfl) (fun hg => (x_moveSl rfl)) ?_
    refine RL.gval (wantedT rfl rfl rfl rfl) (fun hg => (x_lenSl Try.underlying41 (gvr hg))) ?_
    refine RL.gval (wantedT rfl rfl rfl rfl) (fun hg => (x_ltI (gvr hg) rfl)) ?_
    refine RL.val (x_and rfl rfl rfl) ?_
    refine RL.nil ?_
    refine Run.cond rfl (fun hc37 => ?_) (fun hc37 => ?_)
    · try simp only [br] at hc37
      refine Run.region ?_
      refine RL.val (x_moveSl rfl) ?_
      refine RL.val (x_moveI rfl) ?_
      refine RL.st rfl <| St1.buildSlice ([((i : Nat) : Int)] : List Int) Try.underlying41 ty3 rfl rfl (by first | decide | (simp [Enc.size])) ?_
      intro b_17 w_18 hl_21 ho_20 K_19
      have pr_22 : ¬ own (some ⟨b_17, 0, none⟩) b := notNew (ge_new hl_21) hb.lt
      have pr_23 : ∀ q_, own (some ⟨b_17, 0, none⟩) q_ → ¬ own ah q_ := apartNew (ge_new hl_21) ho_3.own_lt
      have pr_24 : ¬ own (some ⟨b_17, 0, none⟩) b_8 := notNew (ge_new hl_21) hb_11.lt
      have pg_25 : ∀ q_, own (some ⟨b_17, 0, none⟩) q_ → w.heap.size ≤ q_ := fun q_ h => Nat.le_trans K0.size ((ge_new hl_21) q_ h)
      clear hl_21
      replace hb := hb.ext K_19
      replace ho_3 := ho_3.ext K_19
      replace hb_11 := hb_11.ext K_19
      replace K0 := K0.ext K_19
      refine RL.st rfl <| St1.append (xs := rf (oth1 T tg) [] i) (ys := ([((i : Nat) : Int)] : List Int)) Try.underlying41 ty3 rfl rfl rfl ho_3 ho_20.sl (by first | omega | (simp only [lr]; omega)) (by decide) ?_
      intro a_26 c_27 w_28 ho_29 K_30 hm_31 hrm_32
      have pr_33 : ¬ own a_26 b := hm_31.not pr_4 hb.lt
      have pr_34 : ¬ own a_26 b_8 := hm_31.not pr_14 hb_11.lt
      have pr_35 : ∀ q_, own a_26 q_ → ¬ own (some ⟨b_17, 0, none⟩) q_ := hm_31.apart (fun q_ h1 h2 => pr_23 q_ h2 h1) ho_20.own_lt
      have pg_36 : ∀ q_, own a_26 q_ → w.heap.size ≤ q_ := hm_31.ge pr_5 K0.size
      replace hb := hb.keep K_30 pr_4
      replace hb_11 := hb_11.keep K_30 pr_14
      replace ho_20 := ho_20.keepO K_30 pr_23
      replace K0 := K0.new K_30 pr_5
      clear hm_31
      clear hrm_32
      refine RL.val (x_assignSl rfl) ?_
      refine RL.nil ?_
      refine Run.inBlock ?_
      refine Run.region ?_
      refine RL.val (litI (c := ((i + 1 : Nat) : Int)) (x_add rfl rfl (by omega) (by omega)) rfl) ?_
      refine RL.val (x_moveI rfl) ?_
      refine RL.nil ?_
      have e := (rf_succ (oth1 T tg) [] i).trans (oth1_yes hk (by omega))
      refine ih1 (i + 1) _ _ ?_ (by omega)
      rw [e]
      refine ⟨_, _, ⟨rfl, rfl, rfl, rfl, rfl, trivial⟩, K0, hb, ho_29, pr_33, pg_36, ?_⟩
      · omega
    · try simp only [br] at hc37
      refine Run.skip ?_
      refine Run.inBlock ?_
      refine Run.region ?_
      refine RL.val (litI (c := ((i + 1 : Nat) : Int)) (x_add rfl rfl (by omega) (by omega)) rfl) ?_
      refine RL.val (x_moveI rfl) ?_
      refine RL.nil ?_
      have e := (rf_succ (oth1 T tg) [] i).trans (oth1_no hk (by omega))
      refine ih1 (i + 1) _ _ ?_ (by omega)
      rw [e]
      refine ⟨_, _, ⟨rfl, rfl, rfl, rfl, rfl, trivial⟩, K0, hb, ho_3, pr_4, pr_5, ?_⟩
      · omega
  · try simp only [br] at hc13
    refine Run.exit rfl ?_
    refine Run.seq ?_
    refine Run.region ?_
    refine RL.val (x_moveSl rfl) ?_
    refine RL.val (x_assignSl rfl) ?_
    refine RL.nil ?_
    refine Run.ret1 (v := .slice (ah) ((rf (oth1 T tg) [] i).length) (ch)) Try.func62 rfl rfl ?_
    have hil : i = 8 := by omega
    subst hil
    exact ⟨_, rfl, ah, ch, rfl, ho_3, pr_5, K0⟩

end Go.Proofs.Ytagfdmdajmkddaa
