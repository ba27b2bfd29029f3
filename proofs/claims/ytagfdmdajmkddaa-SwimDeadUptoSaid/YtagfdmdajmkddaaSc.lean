/-
  Layer 12's walks: Hear, old, others.
-/
import Derived.Test.YtagfdmdajmkddaaRows
import Derived.Test.YtagfdmdajmkddaaSb
namespace Go.Proofs.Ytagfdmdajmkddaa
attribute [local irreducible] St1 RL RA RT RT1 Run

open Sa
theorem hear1_bad {s : Tab × List Peer} {p : Peer} (h : mayB p = false) : hear1 s p = s := by rw [hear1, if_pos h]
theorem hear1_own {s : Tab × List Peer} {p : Peer} (h : mayB p = true) (hn : p.node = s.1.self) : hear1 s p = ((ownT s.1 p).1, s.2 ++ (ownT s.1 p).2) := by rw [hear1, if_neg (by simp [h]), if_pos hn]
theorem hear1_new {s : Tab × List Peer} {p : Peer} {k : KnownM} (h : mayB p = true) (hn : ¬ p.node = s.1.self) (hk : s.1.l[p.node.toNat]? = some k) (hg : k.peer.status = 0 ∨ greaterB p k.peer = true) : hear1 s p = (learnT s.1 p, s.2 ++ [p]) := by
  rw [hear1, if_neg (by simp [h]), if_neg hn, hk]; simp only [if_pos hg]
theorem hear1_same {s : Tab × List Peer} {p : Peer} {k : KnownM} (h : mayB p = true) (hn : ¬ p.node = s.1.self) (hk : s.1.l[p.node.toNat]? = some k) (hg : ¬ (k.peer.status = 0 ∨ greaterB p k.peer = true)) : hear1 s p = s := by
  rw [hear1, if_neg (by simp [h]), if_neg hn, hk]; simp only [if_neg hg]
theorem may_range {p : Peer} (h : mayB p = true) : (0 ≤ p.node ∧ p.node < 8) ∧ 0 ≤ p.inc ∧ p.inc ≤ 1099511627776 ∧ 1 ≤ p.status ∧ p.status ≤ 3 := by
  simp only [mayB, Bool.and_eq_true, decide_eq_true_eq] at h
  omega
theorem hear_len (T : Tab) (l : List Peer) (h : TabOk T) : ∀ i, i ≤ l.length → TabOk (tf hear1 (T, []) l i).1 ∧ (tf hear1 (T, []) l i).2.length ≤ i := by
  refine tf_ind (fun i (s : Tab × List Peer) => TabOk s.1 ∧ s.2.length ≤ i) ⟨h, by simp⟩ ?_
  rintro i x ⟨t, o⟩ hx ⟨h1, h2⟩
  simp only at h1 h2
  unfold hear1
  split
  · exact ⟨h1, by simp only; omega⟩
  · rename_i hm
    split
    · have := ownT_ok (p := x) h1
      exact ⟨this.1, by simp only [List.length_append]; omega⟩
    · split
      · exact ⟨h1, by simp only; omega⟩
      · split
        · exact ⟨learnT_ok h1 (may_range (by simpa using hm)).1, by simp only [List.length_append, List.length_singleton]; omega⟩
        · exact ⟨h1, by simp only; omega⟩
theorem old_ok (T : Tab) (h : TabOk T) : ∀ i, TabOk (rf old1 (T, []) i).1 ∧ (rf old1 (T, []) i).2.length ≤ i ∧ (rf old1 (T, []) i).1.pings = T.pings := by
  refine rf_ind (fun i (s : Tab × List Peer) => TabOk s.1 ∧ s.2.length ≤ i ∧ s.1.pings = T.pings) ⟨h, by simp, rfl⟩ ?_
  rintro i ⟨t, o⟩ ⟨h1, h2, h3⟩
  simp only at h1 h2 h3
  unfold old1
  simp only
  split
  · exact ⟨h1, by simp only; omega, h3⟩
  · rename_i k hk
    split
    · rename_i hc
      have hn := (h1.known i k hk).2.2 (by omega)
      have hl := h1.len
      have hi : i < 8 := by rw [← hl]; exact (List.getElem?_eq_some_iff.1 hk).1
      exact ⟨learnT_ok h1 (by simp only; omega), by simp only [List.length_append, List.length_singleton]; omega, h3⟩
    · exact ⟨h1, by simp only; omega, h3⟩
theorem old1_yes {s : Tab × List Peer} {n : Nat} {k : KnownM} (hk : s.1.l[n]? = some k) (h : k.peer.status = 2 ∧ 300 ≤ s.1.now - k.since) : old1 s n = (learnT s.1 { k.peer with status := 3 }, s.2 ++ [{ k.peer with status := 3 }]) := by
  rw [old1, hk]; simp only [if_pos h]
theorem old1_no {s : Tab × List Peer} {n : Nat} {k : KnownM} (hk : s.1.l[n]? = some k) (h : ¬ (k.peer.status = 2 ∧ 300 ≤ s.1.now - k.since)) : old1 s n = s := by
  rw [old1, hk]; simp only [if_neg h]
theorem oth1_yes {T : Tab} {tg : Int} {s : List Int} {n : Nat} {k : KnownM} (hk : T.l[n]? = some k) (h : (((n : Int) ≠ T.self ∧ (n : Int) ≠ tg) ∧ k.peer.status = 1) ∧ s.length < 2) : oth1 T tg s n = s ++ [(n : Int)] := by
  rw [oth1, hk]; simp only [if_pos h]
theorem oth1_no {T : Tab} {tg : Int} {s : List Int} {n : Nat} {k : KnownM} (hk : T.l[n]? = some k) (h : ¬ ((((n : Int) ≠ T.self ∧ (n : Int) ≠ tg) ∧ k.peer.status = 1) ∧ s.length < 2)) : oth1 T tg s n = s := by
  rw [oth1, hk]; simp only [if_neg h]
theorem oth_len (T : Tab) (tg : Int) : ∀ i, (rf (oth1 T tg) [] i).length ≤ 2 := by
  refine rf_ind (fun _ (s : List Int) => s.length ≤ 2) (by simp) ?_
  intro i s h
  unfold oth1
  split
  · exact h
  · split
    · simp only [List.length_append, List.length_singleton]; omega
    · exact h

theorem en11 : Enters Try.prog 11 := enters_of Try.func11 rfl (by kernel_rfl)
theorem en39 : Enters Try.prog 39 := enters_of Try.func39 rfl (by kernel_rfl)
theorem en40 : Enters Try.prog 40 := enters_of Try.func40 rfl (by kernel_rfl)
theorem en41 : Enters Try.prog 41 := enters_of Try.func41 rfl (by kernel_rfl)
theorem en42 : Enters Try.prog 42 := enters_of Try.func42 rfl (by kernel_rfl)

set_option maxHeartbeats 4000000 in
theorem hear_ (b : Nat) (al : Option Addr) (cl : Nat) (T : Tab) (a0 : Option Addr) (l : List Peer) (c0 : Nat) (t : Int) (w : World) (hT : TabAt w b al cl T) (hl0 : SlOf w a0 l) (hd0 : ∀ x, a0 = some x → l ≠ [] → ¬ tabS b al x.block) (hll : l.length ≤ 4194304) (ht : t ≤ 9223372036854775807) :
    Calls Try.prog 15 #[.pointer (some ⟨b, 0, none⟩), .slice (a0) (l.length) (c0), .int .i64 (t)] w (Ret (fun v w' => ∃ a' c', v = .slice a' (hear T l t).2.length c' ∧ OwnSl w' 23 a' c' (hear T l t).2 ∧ (∀ x, own a' x → w.heap.size ≤ x) ∧ TabAt w' b al cl (hear T l t).1 ∧ Keeps (tabS b al) w w')) := by
  
  have hok := passT_ok hT.ok ht
  refine calls_run (n := 70) Try.func15 rfl rfl rfl ?_
  refine Run.seq ?_
  refine Run.region ?_
  refine RL.val (x_assignSl rfl) ?_
  refine RL.nil ?_
  refine Run.seq ?_
  refine Run.seq ?_
  refine Run.region ?_
  refine RL.val (x_moveP rfl) ?_
  refine RL.st rfl <| St1.call (vals := [.pointer (some ⟨b, 0, none⟩)]) en38 rfl (there_ _ _ _ T _ hT.blk hT.ok.len) ?_
  rintro _ w_1 ⟨rfl, K_2⟩
  replace hT := hT.ext K_2
  have K0 := (K_2 : Ext w _).to (S := (tabS b al))
  refine RL.val (x_not rfl) ?_
  refine RL.nil ?_
  refine Run.condF rfl ?_
  refine Run.skip ?_
  refine Run.seq ?_
  refine Run.region ?_
  refine RL.val (x_moveP rfl) ?_
  refine RL.val (x_moveI rfl) ?_
  refine RL.st rfl <| St1.call (vals := [.pointer (some ⟨b, 0, none⟩), .int .i64 (t)]) en39 rfl (pass_ _ _ _ T t _ hT (by omega)) ?_
  rintro _ w_3 ⟨rfl, hT_4, K_5⟩
  replace K0 := K0.trans K_5 (fun x hlt hx => (fun q_ h _ => h) x hx hlt)
  replace hT := hT_4
  clear hT_4
  refine RL.nil ?_
  refine Run.seq ?_
  refine Run.region ?_
  refine RL.val (x_assignSl rfl) ?_
  refine RL.nil ?_
  refine Run.seq ?_
  refine Run.seq ?_
  refine Run.region ?_
  refine RL.val (x_moveSl rfl) ?_
  refine RL.val (x_lenSl Try.underlying32 rfl) ?_
  refine RL.val (x_moveI rfl) ?_
  refine RL.nil ?_
  refine Run.block ?_
  refine Run.loop (ι := Nat) (fun i ρ' w' => ∃ at1 : Option Addr, ∃ ct1 : Nat, Holds ρ' [(0, .pointer (some ⟨b, 0, none⟩)), (7, .slice (at1) (((tf hear1 (passT T t, []) l i).2).length) (ct1)), (16, .slice (a0) (l.length) (c0)), (17, .int .i64 (((l.length : Nat) : Int))), (18, .int .i64 (((i : Nat) : Int)))] ∧ Keeps (tabS b al) w w' ∧ (TabAt w' b al cl ((tf hear1 (passT T t, []) l i).1)) ∧ (OwnSl w' 23 at1 ct1 ((tf hear1 (passT T t, []) l i).2)) ∧ (∀ q_, tabS b al q_ → ¬ own at1 q_) ∧ (∀ q_, tabS b al q_ → q_ < w.heap.size → (tabS b al) q_) ∧ (∀ q_, own at1 q_ → q_ < w.heap.size → (tabS b al) q_) ∧ (i ≤ l.length)) (fun i => l.length - i) 0 ?_ ?_
  · rw [tf_zero]
    have ho_13 := OwnSl.nil (α := Peer) w_3 23
    refine ⟨_, _, ⟨rfl, rfl, rfl, rfl, rfl, trivial⟩, K0, hT, ho_13, (fun q_ h1 h2 => (fun q_ h1 _ => own_none q_ h1) q_ h2 h1), (fun q_ h _ => h), (fun q_ h1 _ => absurd h1 (own_none q_)), ?_⟩
    · omega
  clear hT
  clear K0
  rintro i ρ_14 w_6 ⟨at1, ct1, hH_7, K0, hO_8, ho_9, pr_10, pr_11, pr_12, hi⟩ ih1
  obtain ⟨ρ₀, rfl⟩ := hH_7.ex
  clear hH_7
  refine Run.seq ?_
  obtain ⟨hok1, hln⟩ := hear_len (passT T t) l hok i (by omega)
  refine Run.region ?_
  refine RL.val (x_ltI rfl rfl) ?_
  refine RL.nil ?_
  refine Run.seq ?_
  refine Run.cond rfl (fun hc19 => ?_) (fun hc19 => ?_)
  · try simp only [br] at hc19
    refine Run.skip ?_
    refine Run.seq ?_
    refine Run.block ?_
    refine Run.seq ?_
    refine Run.region ?_
    obtain ⟨b_15, o_16, p, hx, ha_17, hc_18⟩ := hl0.el (i := i) (by first | omega | (simp only [List.length_set]; omega))
    have hc_18_lt := hc_18.lt
    replace hc_18 := hc_18.keep K0 (hd0 _ ha_17 (ne_get hx))
    refine RL.val (x_idxN Try.underlying32 ty23 rfl rfl ha_17 (by first | omega | (simp only [List.length_set]; omega))) ?_
    refine RL.val (x_ldV (v := .agg #[.int .i64 ((p).node), .int .i64 ((p).inc), .int .i64 ((p).status)]) (y := p) ty23 rfl hc_18 rfl) ?_
    refine RL.st rfl <| St1.alloc ty23 ?_
    intro b_21 w_22 hl_25 hb_24 K_23
    replace hb_24 : Blk w_22 b_21 [.int .i64 (0), .int .i64 (0), .int .i64 (0)] 23 := hb_24
    have ne_26 : b_15 < b_21 := Nat.lt_of_lt_of_le hc_18.lt hl_25
    have pr_27 : ¬ tabS b al b_21 := fun h => absurd (hO_8.own_lt _ h) (by omega)
    have pr_28 : ¬ own at1 b_21 := fun h => absurd (ho_9.own_lt _ h) (by omega)
    have : w.heap.size ≤ b_21 := Nat.le_trans K0.size hl_25
    clear hl_25
    replace hO_8 := hO_8.ext K_23
    replace ho_9 := ho_9.ext K_23
    replace hc_18 := hc_18.ext K_23
    replace K0 := K0.ext K_23
    refine RL.st rfl <| St1.store (v := .agg #[.int .i64 ((p).node), .int .i64 ((p).inc), .int .i64 ((p).status)]) ty23 rfl rfl rfl (by simp [Value.cells, Value.oneCell']) hb_24 (by simp) ?_
    intro w_29 hb_24_ K_30
    have hb_24' : Blk w_29 b_21 [.int .i64 ((p).node), .int .i64 ((p).inc), .int .i64 ((p).status)] 23 := hb_24_
    clear hb_24_
    replace hO_8 := hO_8.keepO K_30 (fun q_ hq_ eq_ => pr_27 (by simp only [one] at eq_; rw [← eq_]; exact hq_))
    replace ho_9 := ho_9.keepO K_30 (fun q_ hq_ eq_ => pr_28 (by simp only [one] at eq_; rw [← eq_]; exact hq_))
    replace hc_18 := hc_18.keep K_30 (by simp only [one]; omega)
    replace K0 := K0.trans K_30 (fun x hlt hx => absurd hlt (by simp only [one] at hx; omega))
    replace hb_24 := hb_24'
    clear hb_24'
    refine RL.nil ?_
    refine Run.block ?_
    refine Run.seq ?_
    refine Run.region ?_
    refine RL.val (x_lds (cs := #[.int .i64 ((p).node), .int .i64 ((p).inc), .int .i64 ((p).status)]) ty23 rfl rfl (hb_24.cl.drop 0 3)) ?_
    refine RL.st rfl <| St1.call (vals := [.agg #[.int .i64 ((p).node), .int .i64 ((p).inc), .int .i64 ((p).status)]]) en40 rfl (may_ p _) ?_
    rintro _ w_31 ⟨rfl, K_32⟩
    replace hO_8 := hO_8.ext K_32
    replace ho_9 := ho_9.ext K_32
    replace hb_24 := hb_24.ext K_32
    replace K0 := K0.ext K_32
    refine RL.val (x_not rfl) ?_
    refine RL.val (x_assignB rfl) ?_
    refine RL.nil ?_
    refine Run.cond rfl (fun hc22 => ?_) (fun hc22 => ?_)
    · try simp only [br] at hc22
      refine Run.skip ?_
      refine Run.inBlock ?_
      refine Run.inBlock ?_
      refine Run.region ?_
      refine RL.val (litI (c := ((i + 1 : Nat) : Int)) (x_add rfl rfl (by omega) (by omega)) rfl) ?_
      refine RL.val (x_moveI rfl) ?_
      refine RL.nil ?_
      have e := (tf_succ (f := hear1) (s := (passT T t, [])) hx).trans (hear1_bad hc22)
      refine ih1 (i + 1) _ _ ?_ (by omega)
      rw [e]
      refine ⟨_, _, ⟨rfl, rfl, rfl, rfl, rfl, trivial⟩, K0, hO_8, ho_9, pr_10, pr_11, pr_12, ?_⟩
      · omega
    · try simp only [br] at hc22
      obtain ⟨hpn, hpi, _⟩ := may_range hc22
      refine Run.seq ?_
      obtain ⟨hb33, ho33, hap33, ok33⟩ := hO_8
      have hl33 := ok33.len
      replace hb33 : Blk w_31 b (([.bool (true), .int .i64 (((tf hear1 (passT T t, []) l i).1).self), .int .i64 (((tf hear1 (passT T t, []) l i).1).now)] : List Value) ++ flat (((tf hear1 (passT T t, []) l i).1).l) ++ ([.slice (al) (((tf hear1 (passT T t, []) l i).1).pings.length) (cl), .int .i64 (((tf hear1 (passT T t, []) l i).1).req), .bool (((tf hear1 (passT T t, []) l i).1).begun), .int .i64 (((tf hear1 (passT T t, []) l i).1).last), .int .i64 (((tf hear1 (passT T t, []) l i).1).target)] : List Value)) 71 := hb33
      have ne_34 : b_21 ≠ b := fun e => pr_27 (.inl e)
      refine Run.draw' (m := 8) (by kernel_rfl) rfl ?_
      intro w_35 K_36
      replace ho_9 := ho_9.ext K_36
      replace hb_24 := hb_24.ext K_36
      replace hb33 := hb33.ext K_36
      replace ho33 := ho33.ext K_36
      replace K0 := K0.ext K_36
      refine RA.take (v := .pointer (some ⟨b_21, 0, none⟩)) 0 rfl (by kernel_rfl) rfl (by rintro _ rfl; exact (x_fld (o' := 0) Try.underlying23 rfl ty3 rfl rfl rfl)) ?_
      refine RA.take (v := .int .i64 ((p).node)) 1 rfl (by kernel_rfl) rfl (by rintro _ rfl; exact (x_ld (v := .int .i64 ((p).node)) ty3 rfl rfl (hb_24.cl.field (i := 0) rfl))) ?_
      refine RA.take (v := .pointer (some ⟨b, 0, none⟩)) 2 rfl (by kernel_rfl) rfl (by rintro _ rfl; exact (x_moveP rfl)) ?_
      refine RA.take (v := .pointer (some ⟨b, 0, none⟩)) 3 rfl (by kernel_rfl) rfl (by rintro _ rfl; exact (x_nilCheck rfl)) ?_
      refine RA.take (v := .pointer (some ⟨b, 1, none⟩)) 4 rfl (by kernel_rfl) rfl (by rintro _ rfl; exact (x_fld (o' := 1) Try.underlying71 rfl ty3 rfl rfl rfl)) ?_
      refine RA.take (v := .int .i64 (((tf hear1 (passT T t, []) l i).1).self)) 5 rfl (by kernel_rfl) rfl (by rintro _ rfl; exact (x_ld (v := .int .i64 (((tf hear1 (passT T t, []) l i).1).self)) ty3 rfl rfl (hb33.cl.field (i := 1) (seg_head rfl)))) ?_
      refine RA.take (v := .bool (((p).node) == (((tf hear1 (passT T t, []) l i).1).self))) 6 rfl (by kernel_rfl) rfl (by rintro _ rfl; exact (x_eqI rfl rfl)) ?_
      refine RA.take (v := .bool (((p).node) == (((tf hear1 (passT T t, []) l i).1).self))) 7 rfl (by kernel_rfl) rfl (by rintro _ rfl; exact (x_assignB rfl)) ?_
      refine RA.done (by kernel_rfl) ?_
      refine Run.cond rfl (fun hc26 => ?_) (fun hc26 => ?_)
      · try simp only [br] at hc26
        refine Run.region ?_
        refine RL.val (x_moveSl rfl) ?_
        refine RL.val (x_moveP rfl) ?_
        refine RL.val (x_lds (cs := #[.int .i64 ((p).node), .int .i64 ((p).inc), .int .i64 ((p).status)]) ty23 rfl rfl (hb_24.cl.drop 0 3)) ?_
        have hT_37 : TabAt w_35 b al cl ((tf hear1 (passT T t, []) l i).1) := ⟨hb33, ho33, hap33, ok33⟩
        have pt_38 : ∀ q_, tabS b al q_ → ¬ own at1 q_ := (fun q_ h1 h2 => h1.elim (fun e => (fun h2 => pr_10 _ (.inl rfl) h2) (e ▸ h2)) (fun h => (fun q_ h1 h2 => pr_10 q_ (.inr h1) h2) q_ h h2))
        have pt_39 : ¬ tabS b al b_21 := (fun h1 => h1.elim (fun e => absurd e (by omega)) (fun h => (fun h1 => pr_27 (.inr h1)) h))
        have pt_40 : ∀ q_, tabS b al q_ → q_ < w.heap.size → (tabS b al) q_ := (fun q_ h1 hlt => h1.elim (fun e => e ▸ (Or.inl rfl)) (fun h => (fun q_ h1 hlt => pr_11 q_ (.inr h1) hlt) q_ h hlt))
        clear hb33 ho33
        refine RL.st rfl <| St1.call (vals := [.pointer (some ⟨b, 0, none⟩), .agg #[.int .i64 ((p).node), .int .i64 ((p).inc), .int .i64 ((p).status)]]) en41 rfl (own_ _ _ _ ((tf hear1 (passT T t, []) l i).1) p _ hT_37 (by omega)) ?_
        rintro _ w_43 ⟨a_41, c_42, rfl, ho_44, hg_45, hT_46, K_47⟩
        have pr_48 : ∀ q_, own a_41 q_ → ¬ own at1 q_ := apartNew hg_45 ho_9.own_lt
        have pr_49 : ¬ own a_41 b_21 := notNew hg_45 hb_24.lt
        have pr_50 : ∀ q_, own a_41 q_ → ¬ tabS b al q_ := apartNew hg_45 hT_37.own_lt
        have pg_51 : ∀ q_, own a_41 q_ → q_ < w.heap.size → (tabS b al) q_ := fun q_ h hlt => absurd (Nat.le_trans K0.size (hg_45 q_ h)) (by omega)
        clear hg_45
        replace ho_9 := ho_9.keepO K_47 (fun q_ h1 h2 => pt_38 q_ h2 h1)
        replace hb_24 := hb_24.keep K_47 pt_39
        replace K0 := K0.trans K_47 (fun x hlt hx => pt_40 x hx hlt)
        replace hT_37 := hT_46
        clear hT_46
        refine RL.st rfl <| St1.append (xs := (tf hear1 (passT T t, []) l i).2) (ys := (ownT ((tf hear1 (passT T t, []) l i).1) p).2) Try.underlying32 ty23 rfl rfl rfl ho_9 ho_44.sl (by have := (ownT_ok (p := p) hok1).2; omega) (by decide) ?_
        intro a_52 c_53 w_54 ho_55 K_56 hm_57 hrm_58
        have pr_59 : ¬ own a_52 b_21 := hm_57.not pr_28 hb_24.lt
        have pr_60 : ∀ q_, own a_52 q_ → ¬ tabS b al q_ := hm_57.apart (fun q_ h1 h2 => pt_38 q_ h2 h1) hT_37.own_lt
        have pr_61 : ∀ q_, own a_52 q_ → ¬ own a_41 q_ := hm_57.apart (fun q_ h1 h2 => pr_48 q_ h2 h1) ho_44.own_lt
        have pg_62 : ∀ q_, own a_52 q_ → q_ < w.heap.size → (tabS b al) q_ := hm_57.inS pr_12 K0.size
        replace hb_24 := hb_24.keep K_56 pr_28
        replace hT_37 := hT_37.keepO K_56 pt_38
        replace ho_44 := ho_44.keepO K_56 pr_48
        replace K0 := K0.trans K_56 (fun x hlt hx => pr_12 x hx hlt)
        clear hm_57
        clear hrm_58
        refine RL.val (x_assignSl rfl) ?_
        refine RL.nil ?_
        refine Run.inBlock ?_
        refine Run.inBlock ?_
        refine Run.region ?_
        refine RL.val (litI (c := ((i + 1 : Nat) : Int)) (x_add rfl rfl (by omega) (by omega)) rfl) ?_
        refine RL.val (x_moveI rfl) ?_
        refine RL.nil ?_
        have e := (tf_succ (f := hear1) (s := (passT T t, [])) hx).trans (hear1_own hc22 hc26)
        refine ih1 (i + 1) _ _ ?_ (by omega)
        rw [e]
        refine ⟨_, _, ⟨rfl, rfl, rfl, rfl, rfl, trivial⟩, K0, hT_37, ho_55, (fun q_ h1 h2 => pr_60 q_ h2 h1), pt_40, pg_62, ?_⟩
        · omega
      · try simp only [br] at hc26
        refine Run.seq ?_
        obtain ⟨k, hk⟩ : ∃ x_, (((tf hear1 (passT T t, []) l i).1).l)[((p).node).toNat]? = some x_ := ⟨_, List.getElem?_eq_getElem (by rw [hl33]; omega)⟩
        refine Run.drawT [] (m := 23) (by kernel_rfl) rfl ?_
        intro w_63 K_64
        replace ho_9 := ho_9.ext K_64
        replace hb_24 := hb_24.ext K_64
        replace hb33 := hb33.ext K_64
        replace ho33 := ho33.ext K_64
        replace K0 := K0.ext K_64
        refine ⟨fun w' => Blk w' b_21 [.int .i64 ((p).node), .int .i64 ((p).inc), .int .i64 ((p).status)] 23 ∧ Blk w' b (([.bool (true), .int .i64 (((tf hear1 (passT T t, []) l i).1).self), .int .i64 (((tf hear1 (passT T t, []) l i).1).now)] : List Value) ++ flat (((tf hear1 (passT T t, []) l i).1).l) ++ ([.slice (al) (((tf hear1 (passT T t, []) l i).1).pings.length) (cl), .int .i64 (((tf hear1 (passT T t, []) l i).1).req), .bool (((tf hear1 (passT T t, []) l i).1).begun), .int .i64 (((tf hear1 (passT T t, []) l i).1).last), .int .i64 (((tf hear1 (passT T t, []) l i).1).target)] : List Value)) 71 ∧ True, ?_⟩
        refine RT.takeP (v := .pointer (some ⟨b, 0, none⟩)) 0 rfl (by kernel_rfl) (.inr ⟨hb_24, hb33, trivial⟩) (fun _ => (x_moveP rfl)) ?_
        refine RT.takeP (v := .pointer (some ⟨b_21, 0, none⟩)) 1 rfl (by kernel_rfl) (.inr ⟨hb_24, hb33, trivial⟩) (fun _ => (x_fld (o' := 0) Try.underlying23 rfl ty3 rfl rfl rfl)) ?_
        refine RT.take (v := .int .i64 ((p).node)) 2 rfl (by kernel_rfl) ⟨hb_24, hb33, trivial⟩ (by rintro _ ⟨hb_24, hb33, -⟩; exact (x_ld (v := .int .i64 ((p).node)) ty3 rfl rfl (hb_24.cl.field (i := 0) rfl))) ?_
        refine RT.takeP (v := .pointer (some ⟨b, 0, none⟩)) 3 rfl (by kernel_rfl) (.inr ⟨hb_24, hb33, trivial⟩) (fun _ => (x_nilCheck rfl)) ?_
        refine RT.takeP (v := .pointer (some ⟨b, 3, none⟩)) 4 rfl (by kernel_rfl) (.inr ⟨hb_24, hb33, trivial⟩) (fun _ => (x_fld (o' := 3) Try.underlying71 rfl ty68 rfl rfl rfl)) ?_
        refine RT.takeP (v := .pointer (some ⟨b, 3 + ((p).node).toNat * 4, none⟩)) 5 rfl (by kernel_rfl) (.inr ⟨hb_24, hb33, trivial⟩) (fun _ => (x_idxA Try.underlying68 ty67 rfl rfl (by omega) (by omega))) ?_
        refine RT.takeP (v := .pointer (some ⟨b, 3 + ((p).node).toNat * 4 + 0, none⟩)) 6 rfl (by kernel_rfl) (.inr ⟨hb_24, hb33, trivial⟩) (fun _ => (x_fld (o' := 3 + ((p).node).toNat * 4 + 0) Try.underlying67 rfl ty23 rfl rfl rfl)) ?_
        refine RT.takeP (v := .pointer (some ⟨b, 3 + ((p).node).toNat * 4 + 0 + 2, none⟩)) 7 rfl (by kernel_rfl) (.inr ⟨hb_24, hb33, trivial⟩) (fun _ => (x_fld (o' := 3 + ((p).node).toNat * 4 + 0 + 2) Try.underlying23 rfl ty3 rfl rfl rfl)) ?_
        obtain ⟨k, hk⟩ : ∃ x_, (((tf hear1 (passT T t, []) l i).1).l)[((p).node).toNat]? = some x_ := ⟨_, List.getElem?_eq_getElem (by rw [hl33]; omega)⟩
        refine RT.take (v := .int .i64 (((k).peer).status)) 8 rfl (by kernel_rfl) ⟨hb_24, hb33, trivial⟩ (by rintro _ ⟨hb_24, hb33, -⟩; exact (x_ld (v := .int .i64 (((k).peer).status)) ty3 rfl rfl ((seg_cl hb33 hk).field (i := 2) rfl))) ?_
        refine RT.takeP (v := .bool ((((k).peer).status) == 0)) 9 rfl (by kernel_rfl) (.inr ⟨hb_24, hb33, trivial⟩) (fun _ => (x_eqI rfl rfl)) ?_
        refine RT.takeP (v := .bool ((((k).peer).status) == 0)) 10 rfl (by kernel_rfl) (.inr ⟨hb_24, hb33, trivial⟩) (fun _ => (x_moveB rfl)) ?_
        refine RT.gtake (v := .agg #[.int .i64 ((p).node), .int .i64 ((p).inc), .int .i64 ((p).status)]) 11 rfl (by kernel_rfl) ⟨hb_24, hb33, trivial⟩ (wantedF rfl rfl rfl rfl) (fun hg => by rintro _ ⟨hb_24, hb33, -⟩; exact (x_lds (cs := #[.int .i64 ((p).node), .int .i64 ((p).inc), .int .i64 ((p).status)]) ty23 rfl rfl (hb_24.cl.drop 0 3))) ?_
        refine RT.gtakeP (v := .pointer (some ⟨b, 0, none⟩)) 12 rfl (by kernel_rfl) (.inr ⟨hb_24, hb33, trivial⟩) (wantedF rfl rfl rfl rfl) (fun hg _ => (x_moveP rfl)) ?_
        refine RT.gtakeP (v := .pointer (some ⟨b_21, 0, none⟩)) 13 rfl (by kernel_rfl) (.inr ⟨hb_24, hb33, trivial⟩) (wantedF rfl rfl rfl rfl) (fun hg _ => (x_fld (o' := 0) Try.underlying23 rfl ty3 rfl rfl rfl)) ?_
        refine RT.gtake (v := .int .i64 ((p).node)) 14 rfl (by kernel_rfl) ⟨hb_24, hb33, trivial⟩ (wantedF rfl rfl rfl rfl) (fun hg => by rintro _ ⟨hb_24, hb33, -⟩; exact (x_ld (v := .int .i64 ((p).node)) ty3 (gvr hg) rfl (hb_24.cl.field (i := 0) rfl))) ?_
        refine RT.gtakeP (v := .pointer (some ⟨b, 0, none⟩)) 15 rfl (by kernel_rfl) (.inr ⟨hb_24, hb33, trivial⟩) (wantedF rfl rfl rfl rfl) (fun hg _ => (x_nilCheck (gvr hg))) ?_
        refine RT.gtakeP (v := .pointer (some ⟨b, 3, none⟩)) 16 rfl (by kernel_rfl) (.inr ⟨hb_24, hb33, trivial⟩) (wantedF rfl rfl rfl rfl) (fun hg _ => (x_fld (o' := 3) Try.underlying71 rfl ty68 rfl (gvr hg) rfl)) ?_
        refine RT.gtakeP (v := .pointer (some ⟨b, 3 + ((p).node).toNat * 4, none⟩)) 17 rfl (by kernel_rfl) (.inr ⟨hb_24, hb33, trivial⟩) (wantedF rfl rfl rfl rfl) (fun hg _ => (x_idxA Try.underlying68 ty67 (gvr hg) (gvr hg) (by omega) (by omega))) ?_
        refine RT.gtakeP (v := .pointer (some ⟨b, 3 + ((p).node).toNat * 4 + 0, none⟩)) 18 rfl (by kernel_rfl) (.inr ⟨hb_24, hb33, trivial⟩) (wantedF rfl rfl rfl rfl) (fun hg _ => (x_fld (o' := 3 + ((p).node).toNat * 4 + 0) Try.underlying67 rfl ty23 rfl (gvr hg) rfl)) ?_
        refine RT.gtake (v := .agg #[.int .i64 (((k).peer).node), .int .i64 (((k).peer).inc), .int .i64 (((k).peer).status)]) 19 rfl (by kernel_rfl) ⟨hb_24, hb33, trivial⟩ (wantedF rfl rfl rfl rfl) (fun hg => by rintro _ ⟨hb_24, hb33, -⟩; exact (x_lds (cs := #[.int .i64 (((k).peer).node), .int .i64 (((k).peer).inc), .int .i64 (((k).peer).status)]) ty23 (gvr hg) rfl ((seg_cl hb33 hk).drop 0 3))) ?_
        refine RT.gcall (vals := [.agg #[.int .i64 ((p).node), .int .i64 ((p).inc), .int .i64 ((p).status)], .agg #[.int .i64 (((k).peer).node), .int .i64 (((k).peer).inc), .int .i64 (((k).peer).status)]]) 20 rfl (by kernel_rfl) (wantedF rfl rfl rfl rfl) en11 (fun hg => (mcons (gvr hg) (mcons (gvr hg) mnil))) (fun hg => (greater_ p ((k).peer) _)) ?_
        intro w_65 K_66
        replace ho_9 := ho_9.ext K_66
        replace hb_24 := hb_24.ext K_66
        replace hb33 := hb33.ext K_66
        replace ho33 := ho33.ext K_66
        replace K0 := K0.ext K_66
        refine ⟨.inr ⟨hb_24, hb33, trivial⟩, ?_⟩
        refine RT.takeP (v := .bool (((((k).peer).status) == 0) || (greaterB p ((k).peer)))) 21 rfl (by kernel_rfl) (.inr ⟨hb_24, hb33, trivial⟩) (fun _ => (x_or rfl rfl rfl)) ?_
        refine RT.takeP (v := .bool (((((k).peer).status) == 0) || (greaterB p ((k).peer)))) 22 rfl (by kernel_rfl) (.inr ⟨hb_24, hb33, trivial⟩) (fun _ => (x_assignB rfl)) ?_
        refine RT.done (by kernel_rfl) ?_
        refine Run.cond rfl (fun hc39 => ?_) (fun hc39 => ?_)
        · try simp only [br] at hc39
          refine Run.region ?_
          refine RL.val (x_moveSl rfl) ?_
          refine RL.val (x_moveP rfl) ?_
          refine RL.val (x_lds (cs := #[.int .i64 ((p).node), .int .i64 ((p).inc), .int .i64 ((p).status)]) ty23 rfl rfl (hb_24.cl.drop 0 3)) ?_
          have hT_67 : TabAt w_65 b al cl ((tf hear1 (passT T t, []) l i).1) := ⟨hb33, ho33, hap33, ok33⟩
          have pt_68 : ∀ q_, tabS b al q_ → ¬ own at1 q_ := (fun q_ h1 h2 => h1.elim (fun e => (fun h2 => pr_10 _ (.inl rfl) h2) (e ▸ h2)) (fun h => (fun q_ h1 h2 => pr_10 q_ (.inr h1) h2) q_ h h2))
          have pt_69 : ¬ tabS b al b_21 := (fun h1 => h1.elim (fun e => absurd e (by omega)) (fun h => (fun h1 => pr_27 (.inr h1)) h))
          have pt_70 : ∀ q_, tabS b al q_ → q_ < w.heap.size → (tabS b al) q_ := (fun q_ h1 hlt => h1.elim (fun e => e ▸ (Or.inl rfl)) (fun h => (fun q_ h1 hlt => pr_11 q_ (.inr h1) hlt) q_ h hlt))
          clear hb33 ho33
          refine RL.st rfl <| St1.call (vals := [.pointer (some ⟨b, 0, none⟩), .agg #[.int .i64 ((p).node), .int .i64 ((p).inc), .int .i64 ((p).status)]]) en42 rfl (learn_ _ _ _ ((tf hear1 (passT T t, []) l i).1) p _ hT_67 (by first | omega | (simp only; omega))) ?_
          rintro _ w_71 ⟨rfl, hT_72, K_73⟩
          replace ho_9 := ho_9.keepO K_73 (fun q_ h1 h2 => pt_68 q_ h2 h1)
          replace hb_24 := hb_24.keep K_73 pt_69
          replace K0 := K0.trans K_73 (fun x hlt hx => pt_70 x hx hlt)
          replace hT_67 := hT_72
          clear hT_72
          refine RL.st rfl <| St1.buildSlice ([p] : List Peer) Try.underlying32 ty23 rfl rfl (by first | decide | (simp [Enc.size])) ?_
          intro b_74 w_75 hl_78 ho_77 K_76
          have pr_79 : ∀ q_, own (some ⟨b_74, 0, none⟩) q_ → ¬ own at1 q_ := apartNew (ge_new hl_78) ho_9.own_lt
          have pr_80 : ¬ own (some ⟨b_74, 0, none⟩) b_21 := notNew (ge_new hl_78) hb_24.lt
          have pr_81 : ∀ q_, own (some ⟨b_74, 0, none⟩) q_ → ¬ tabS b al q_ := apartNew (ge_new hl_78) hT_67.own_lt
          have pg_82 : ∀ q_, own (some ⟨b_74, 0, none⟩) q_ → q_ < w.heap.size → (tabS b al) q_ := fun q_ h hlt => absurd (Nat.le_trans K0.size ((ge_new hl_78) q_ h)) (by omega)
          clear hl_78
          replace ho_9 := ho_9.ext K_76
          replace hb_24 := hb_24.ext K_76
          replace hT_67 := hT_67.ext K_76
          replace K0 := K0.ext K_76
          refine RL.st rfl <| St1.append (xs := (tf hear1 (passT T t, []) l i).2) (ys := ([p] : List Peer)) Try.underlying32 ty23 rfl rfl rfl ho_9 ho_77.sl (by first | omega | (simp only [lr]; omega)) (by decide) ?_
          intro a_83 c_84 w_85 ho_86 K_87 hm_88 hrm_89
          have pr_90 : ¬ own a_83 b_21 := hm_88.not pr_28 hb_24.lt
          have pr_91 : ∀ q_, own a_83 q_ → ¬ tabS b al q_ := hm_88.apart (fun q_ h1 h2 => pt_68 q_ h2 h1) hT_67.own_lt
          have pr_92 : ∀ q_, own a_83 q_ → ¬ own (some ⟨b_74, 0, none⟩) q_ := hm_88.apart (fun q_ h1 h2 => pr_79 q_ h2 h1) ho_77.own_lt
          have pg_93 : ∀ q_, own a_83 q_ → q_ < w.heap.size → (tabS b al) q_ := hm_88.inS pr_12 K0.size
          replace hb_24 := hb_24.keep K_87 pr_28
          replace hT_67 := hT_67.keepO K_87 pt_68
          replace ho_77 := ho_77.keepO K_87 pr_79
          replace K0 := K0.trans K_87 (fun x hlt hx => pr_12 x hx hlt)
          clear hm_88
          clear hrm_89
          refine RL.val (x_assignSl rfl) ?_
          refine RL.nil ?_
          refine Run.inBlock ?_
          refine Run.inBlock ?_
          refine Run.region ?_
          refine RL.val (litI (c := ((i + 1 : Nat) : Int)) (x_add rfl rfl (by omega) (by omega)) rfl) ?_
          refine RL.val (x_moveI rfl) ?_
          refine RL.nil ?_
          have e := (tf_succ (f := hear1) (s := (passT T t, [])) hx).trans (hear1_new hc22 hc26 hk hc39)
          refine ih1 (i + 1) _ _ ?_ (by omega)
          rw [e]
          refine ⟨_, _, ⟨rfl, rfl, rfl, rfl, rfl, trivial⟩, K0, hT_67, ho_86, (fun q_ h1 h2 => pr_91 q_ h2 h1), pt_70, pg_93, ?_⟩
          · omega
        · try simp only [br] at hc39
          refine Run.skip ?_
          refine Run.inBlock ?_
          refine Run.inBlock ?_
          refine Run.region ?_
          refine RL.val (litI (c := ((i + 1 : Nat) : Int)) (x_add rfl rfl (by omega) (by omega)) rfl) ?_
          refine RL.val (x_moveI rfl) ?_
          refine RL.nil ?_
          have hT_94 : TabAt w_65 b al cl ((tf hear1 (passT T t, []) l i).1) := ⟨hb33, ho33, hap33, ok33⟩
          have pt_95 : ∀ q_, tabS b al q_ → ¬ own at1 q_ := (fun q_ h1 h2 => h1.elim (fun e => (fun h2 => pr_10 _ (.inl rfl) h2) (e ▸ h2)) (fun h => (fun q_ h1 h2 => pr_10 q_ (.inr h1) h2) q_ h h2))
          have pt_96 : ¬ tabS b al b_21 := (fun h1 => h1.elim (fun e => absurd e (by omega)) (fun h => (fun h1 => pr_27 (.inr h1)) h))
          have pt_97 : ∀ q_, tabS b al q_ → q_ < w.heap.size → (tabS b al) q_ := (fun q_ h1 hlt => h1.elim (fun e => e ▸ (Or.inl rfl)) (fun h => (fun q_ h1 hlt => pr_11 q_ (.inr h1) hlt) q_ h hlt))
          clear hb33 ho33
          have e := (tf_succ (f := hear1) (s := (passT T t, [])) hx).trans (hear1_same hc22 hc26 hk (fun h => h.elim hc39.1 (fun h => by rw [hc39.2] at h; cases h)))
          refine ih1 (i + 1) _ _ ?_ (by omega)
          rw [e]
          refine ⟨_, _, ⟨rfl, rfl, rfl, rfl, rfl, trivial⟩, K0, hT_94, ho_9, pt_95, pt_97, pr_12, ?_⟩
          · omega
  · try simp only [br] at hc19
    refine Run.exit rfl ?_
    refine Run.seq ?_
    refine Run.region ?_
    refine RL.val (x_moveSl rfl) ?_
    refine RL.val (x_assignSl rfl) ?_
    refine RL.nil ?_
    refine Run.ret1 (v := .slice (at1) (((tf hear1 (passT T t, []) l i).2).length) (ct1)) Try.func15 rfl rfl ?_
    have hil : i = l.length := by omega
    subst hil
    exact ⟨_, rfl, at1, ct1, rfl, ho_9, fun x hx => Nat.le_of_not_lt fun hlt => pr_10 x (pr_12 x hx hlt) hx, hO_8, K0⟩

set_option maxHeartbeats 4000000 in
theorem old_ (b : Nat) (al : Option Addr) (cl : Nat) (T : Tab)  (w : World) (hT : TabAt w b al cl T) :
    Calls Try.prog 43 #[.pointer (some ⟨b, 0, none⟩)] w (Ret (fun v w' => ∃ a' c', v = .slice a' (oldT T).2.length c' ∧ OwnSl w' 23 a' c' (oldT T).2 ∧ (∀ x, own a' x → w.heap.size ≤ x) ∧ TabAt w' b al cl (oldT T).1 ∧ Keeps (tabS b al) w w')) := by
  
  have hok := hT.ok
  refine calls_run (n := 40) Try.func43 rfl rfl rfl ?_
  refine Run.seq ?_
  refine Run.region ?_
  refine RL.val (x_assignSl rfl) ?_
  refine RL.nil ?_
  refine Run.seq ?_
  refine Run.region ?_
  refine RL.val (x_assignSl rfl) ?_
  refine RL.nil ?_
  refine Run.seq ?_
  refine Run.seq ?_
  refine Run.region ?_
  refine RL.val (x_moveI rfl) ?_
  refine RL.nil ?_
  refine Run.block ?_
  refine Run.loop (ι := Nat) (fun i ρ' w' => ∃ at1 : Option Addr, ∃ ct1 : Nat, Holds ρ' [(0, .pointer (some ⟨b, 0, none⟩)), (3, .slice (at1) (((rf old1 (T, []) i).2).length) (ct1)), (6, .int .i64 (((i : Nat) : Int)))] ∧ Keeps (tabS b al) w w' ∧ (TabAt w' b al cl ((rf old1 (T, []) i).1)) ∧ (OwnSl w' 23 at1 ct1 ((rf old1 (T, []) i).2)) ∧ (∀ q_, tabS b al q_ → ¬ own at1 q_) ∧ (∀ q_, tabS b al q_ → q_ < w.heap.size → (tabS b al) q_) ∧ (∀ q_, own at1 q_ → q_ < w.heap.size → (tabS b al) q_) ∧ (i ≤ 8)) (fun i => 8 - i) 0 ?_ ?_
  · rw [rf_zero]
    have ho_8 := OwnSl.nil (α := Peer) w 23
    refine ⟨_, _, ⟨rfl, rfl, rfl, trivial⟩, (Keeps.refl _ w), hT, ho_8, (fun q_ h1 h2 => (fun q_ h1 _ => own_none q_ h1) q_ h2 h1), (fun q_ h _ => h), (fun q_ h1 _ => absurd h1 (own_none q_)), ?_⟩
    · omega
  clear hT
  rintro i ρ_9 w_1 ⟨at1, ct1, hH_2, K0, hO_3, ho_4, pr_5, pr_6, pr_7, hi⟩ ih1
  obtain ⟨ρ₀, rfl⟩ := hH_2.ex
  clear hH_2
  refine Run.seq ?_
  obtain ⟨hok1, hln, _⟩ := old_ok T hok i
  have hnw := hok1.now0
  refine Run.region ?_
  refine RL.val (x_ltI rfl rfl) ?_
  refine RL.nil ?_
  refine Run.seq ?_
  refine Run.cond rfl (fun hc7 => ?_) (fun hc7 => ?_)
  · try simp only [br] at hc7
    refine Run.skip ?_
    refine Run.seq ?_
    refine Run.block ?_
    refine Run.seq ?_
    refine Run.region ?_
    refine RL.val (x_moveI rfl) ?_
    refine RL.val (x_assignI rfl) ?_
    refine RL.nil ?_
    refine Run.seq ?_
    obtain ⟨hb10, ho10, hap10, ok10⟩ := hO_3
    have hl10 := ok10.len
    replace hb10 : Blk w_1 b (([.bool (true), .int .i64 (((rf old1 (T, []) i).1).self), .int .i64 (((rf old1 (T, []) i).1).now)] : List Value) ++ flat (((rf old1 (T, []) i).1).l) ++ ([.slice (al) (((rf old1 (T, []) i).1).pings.length) (cl), .int .i64 (((rf old1 (T, []) i).1).req), .bool (((rf old1 (T, []) i).1).begun), .int .i64 (((rf old1 (T, []) i).1).last), .int .i64 (((rf old1 (T, []) i).1).target)] : List Value)) 71 := hb10
    refine Run.region ?_
    refine RL.val (x_moveP rfl) ?_
    refine RL.val (x_moveI rfl) ?_
    refine RL.val (x_nilCheck rfl) ?_
    refine RL.val (x_fld (o' := 3) Try.underlying71 rfl ty68 rfl rfl rfl) ?_
    refine RL.val (x_idxAN Try.underlying68 ty67 rfl rfl (by omega)) ?_
    obtain ⟨k, hk⟩ : ∃ x_, (((rf old1 (T, []) i).1).l)[i]? = some x_ := ⟨_, List.getElem?_eq_getElem (by rw [hl10]; omega)⟩
    refine RL.val (x_ldV (v := .agg #[.int .i64 (((k).peer).node), .int .i64 (((k).peer).inc), .int .i64 (((k).peer).status), .int .i64 ((k).since)]) (y := k) ty67 rfl (seg_cl hb10 hk) rfl) ?_
    refine RL.st rfl <| St1.alloc ty67 ?_
    intro b_11 w_12 hl_15 hb_14 K_13
    replace hb_14 : Blk w_12 b_11 [.int .i64 (0), .int .i64 (0), .int .i64 (0), .int .i64 (0)] 67 := hb_14
    have ne_16 : b < b_11 := Nat.lt_of_lt_of_le hb10.lt hl_15
    have pr_17 : ¬ own at1 b_11 := fun h => absurd (ho_4.own_lt _ h) (by omega)
    have pr_18 : ¬ own al b_11 := fun h => absurd (ho10.own_lt _ h) (by omega)
    have : w.heap.size ≤ b_11 := Nat.le_trans K0.size hl_15
    clear hl_15
    replace ho_4 := ho_4.ext K_13
    replace hb10 := hb10.ext K_13
    replace ho10 := ho10.ext K_13
    replace K0 := K0.ext K_13
    refine RL.st rfl <| St1.store (v := .agg #[.int .i64 (((k).peer).node), .int .i64 (((k).peer).inc), .int .i64 (((k).peer).status), .int .i64 ((k).since)]) ty67 rfl rfl rfl (by simp [Value.cells, Value.oneCell']) hb_14 (by simp) ?_
    intro w_19 hb_14_ K_20
    have hb_14' : Blk w_19 b_11 [.int .i64 (((k).peer).node), .int .i64 (((k).peer).inc), .int .i64 (((k).peer).status), .int .i64 ((k).since)] 67 := hb_14_
    clear hb_14_
    replace ho_4 := ho_4.keepO K_20 (fun q_ hq_ eq_ => pr_17 (by simp only [one] at eq_; rw [← eq_]; exact hq_))
    replace hb10 := hb10.keep K_20 (by simp only [one]; omega)
    replace ho10 := ho10.keepO K_20 (fun q_ hq_ eq_ => pr_18 (by simp only [one] at eq_; rw [← eq_]; exact hq_))
    replace K0 := K0.trans K_20 (fun x hlt hx => absurd hlt (by simp only [one] at hx; omega))
    replace hb_14 := hb_14'
    clear hb_14'
    refine RL.nil ?_
    have hkn := hok1.known i k hk
    refine Run.seq ?_
    refine Run.draw' (m := 14) (by kernel_rfl) rfl ?_
    intro w_21 K_22
    replace ho_4 := ho_4.ext K_22
    replace hb10 := hb10.ext K_22
    replace ho10 := ho10.ext K_22
    replace hb_14 := hb_14.ext K_22
    replace K0 := K0.ext K_22
    refine RA.take (v := .pointer (some ⟨b_11, 0, none⟩)) 0 rfl (by kernel_rfl) rfl (by rintro _ rfl; exact (x_fld (o' := 0) Try.underlying67 rfl ty23 rfl rfl rfl)) ?_
    refine RA.take (v := .pointer (some ⟨b_11, 2, none⟩)) 1 rfl (by kernel_rfl) rfl (by rintro _ rfl; exact (x_fld (o' := 2) Try.underlying23 rfl ty3 rfl rfl rfl)) ?_
    refine RA.take (v := .int .i64 (((k).peer).status)) 2 rfl (by kernel_rfl) rfl (by rintro _ rfl; exact (x_ld (v := .int .i64 (((k).peer).status)) ty3 rfl rfl (hb_14.cl.field (i := 2) rfl))) ?_
    refine RA.take (v := .bool ((((k).peer).status) == 2)) 3 rfl (by kernel_rfl) rfl (by rintro _ rfl; exact (x_eqI rfl rfl)) ?_
    refine RA.take (v := .bool ((((k).peer).status) == 2)) 4 rfl (by kernel_rfl) rfl (by rintro _ rfl; exact (x_moveB rfl)) ?_
    refine RA.gtake (v := .pointer (some ⟨b, 0, none⟩)) 5 rfl (by kernel_rfl) rfl (wantedT rfl rfl rfl rfl) (fun hg => by rintro _ rfl; exact (x_moveP rfl)) ?_
    refine RA.gtake (v := .pointer (some ⟨b, 0, none⟩)) 6 rfl (by kernel_rfl) rfl (wantedT rfl rfl rfl rfl) (fun hg => by rintro _ rfl; exact (x_nilCheck (gvr hg))) ?_
    refine RA.gtake (v := .pointer (some ⟨b, 2, none⟩)) 7 rfl (by kernel_rfl) rfl (wantedT rfl rfl rfl rfl) (fun hg => by rintro _ rfl; exact (x_fld (o' := 2) Try.underlying71 rfl ty3 rfl (gvr hg) rfl)) ?_
    refine RA.gtake (v := .int .i64 (((rf old1 (T, []) i).1).now)) 8 rfl (by kernel_rfl) rfl (wantedT rfl rfl rfl rfl) (fun hg => by rintro _ rfl; exact (x_ld (v := .int .i64 (((rf old1 (T, []) i).1).now)) ty3 (gvr hg) rfl (hb10.cl.field (i := 2) (seg_head rfl)))) ?_
    refine RA.gtake (v := .pointer (some ⟨b_11, 3, none⟩)) 9 rfl (by kernel_rfl) rfl (wantedT rfl rfl rfl rfl) (fun hg => by rintro _ rfl; exact (x_fld (o' := 3) Try.underlying67 rfl ty3 rfl rfl rfl)) ?_
    refine RA.gtake (v := .int .i64 ((k).since)) 10 rfl (by kernel_rfl) rfl (wantedT rfl rfl rfl rfl) (fun hg => by rintro _ rfl; exact (x_ld (v := .int .i64 ((k).since)) ty3 (gvr hg) rfl (hb_14.cl.field (i := 3) rfl))) ?_
    refine RA.gtake (v := .int .i64 ((((rf old1 (T, []) i).1).now) - ((k).since))) 11 rfl (by kernel_rfl) rfl (wantedT rfl rfl rfl rfl) (fun hg => by rintro _ rfl; exact (x_sub (gvr hg) (gvr hg) (by omega) (by omega))) ?_
    refine RA.gtake (v := .bool (decide (300 ≤ ((((rf old1 (T, []) i).1).now) - ((k).since))))) 12 rfl (by kernel_rfl) rfl (wantedT rfl rfl rfl rfl) (fun hg => by rintro _ rfl; exact (x_geI (gvr hg) rfl)) ?_
    refine RA.take (v := .bool (((((k).peer).status) == 2) && (decide (300 ≤ ((((rf old1 (T, []) i).1).now) - ((k).since)))))) 13 rfl (by kernel_rfl) rfl (by rintro _ rfl; exact (x_and rfl rfl rfl)) ?_
    refine RA.done (by kernel_rfl) ?_
    refine Run.cond rfl (fun hc28 => ?_) (fun hc28 => ?_)
    · try simp only [br] at hc28
      refine Run.seq ?_
      refine Run.region ?_
      refine RL.val (x_fld (o' := 0) Try.underlying67 rfl ty23 rfl rfl rfl) ?_
      refine RL.val (x_fld (o' := 2) Try.underlying23 rfl ty3 rfl rfl rfl) ?_
      refine RL.st rfl <| St1.store (v := .int .i64 (3)) ty3 rfl rfl rfl (by simp [Value.cells, Value.oneCell']) hb_14 (by simp) ?_
      intro w_23 hb_14_ K_24
      have hb_14' : Blk w_23 b_11 [.int .i64 (((k).peer).node), .int .i64 (((k).peer).inc), .int .i64 (3), .int .i64 ((k).since)] 67 := hb_14_
      clear hb_14_
      replace ho_4 := ho_4.keepO K_24 (fun q_ hq_ eq_ => pr_17 (by simp only [one] at eq_; rw [← eq_]; exact hq_))
      replace hb10 := hb10.keep K_24 (by simp only [one]; omega)
      replace ho10 := ho10.keepO K_24 (fun q_ hq_ eq_ => pr_18 (by simp only [one] at eq_; rw [← eq_]; exact hq_))
      replace K0 := K0.trans K_24 (fun x hlt hx => absurd hlt (by simp only [one] at hx; omega))
      replace hb_14 := hb_14'
      clear hb_14'
      refine RL.nil ?_
      have hkn2 := hkn.2.2 (by omega)
      refine Run.region ?_
      refine RL.val (x_moveSl rfl) ?_
      refine RL.val (x_moveP rfl) ?_
      refine RL.val (x_fld (o' := 0) Try.underlying67 rfl ty23 rfl rfl rfl) ?_
      refine RL.val (x_lds (cs := #[.int .i64 (((k).peer).node), .int .i64 (((k).peer).inc), .int .i64 (3)]) ty23 rfl rfl (hb_14.cl.drop 0 3)) ?_
      have hT_25 : TabAt w_23 b al cl ((rf old1 (T, []) i).1) := ⟨hb10, ho10, hap10, ok10⟩
      have pt_26 : ∀ q_, tabS b al q_ → ¬ own at1 q_ := (fun q_ h1 h2 => h1.elim (fun e => (fun h2 => pr_5 _ (.inl rfl) h2) (e ▸ h2)) (fun h => (fun q_ h1 h2 => pr_5 q_ (.inr h1) h2) q_ h h2))
      have pt_27 : ¬ tabS b al b_11 := (fun h1 => h1.elim (fun e => absurd e (by omega)) (fun h => pr_18 h))
      have pt_28 : ∀ q_, tabS b al q_ → q_ < w.heap.size → (tabS b al) q_ := (fun q_ h1 hlt => h1.elim (fun e => e ▸ (Or.inl rfl)) (fun h => (fun q_ h1 hlt => pr_6 q_ (.inr h1) hlt) q_ h hlt))
      clear hb10 ho10
      refine RL.st rfl <| St1.call (vals := [.pointer (some ⟨b, 0, none⟩), .agg #[.int .i64 (((k).peer).node), .int .i64 (((k).peer).inc), .int .i64 (3)]]) en42 rfl (learn_ _ _ _ ((rf old1 (T, []) i).1) (⟨((k).peer).node, ((k).peer).inc, 3⟩ : Peer) _ hT_25 (by first | omega | (simp only; omega))) ?_
      rintro _ w_29 ⟨rfl, hT_30, K_31⟩
      replace ho_4 := ho_4.keepO K_31 (fun q_ h1 h2 => pt_26 q_ h2 h1)
      replace hb_14 := hb_14.keep K_31 pt_27
      replace K0 := K0.trans K_31 (fun x hlt hx => pt_28 x hx hlt)
      replace hT_25 := hT_30
      clear hT_30
      refine RL.st rfl <| St1.buildSlice ([(⟨((k).peer).node, ((k).peer).inc, 3⟩ : Peer)] : List Peer) Try.underlying32 ty23 rfl rfl (by first | decide | (simp [Enc.size])) ?_
      intro b_32 w_33 hl_36 ho_35 K_34
      have pr_37 : ∀ q_, own (some ⟨b_32, 0, none⟩) q_ → ¬ own at1 q_ := apartNew (ge_new hl_36) ho_4.own_lt
      have pr_38 : ¬ own (some ⟨b_32, 0, none⟩) b_11 := notNew (ge_new hl_36) hb_14.lt
      have pr_39 : ∀ q_, own (some ⟨b_32, 0, none⟩) q_ → ¬ tabS b al q_ := apartNew (ge_new hl_36) hT_25.own_lt
      have pg_40 : ∀ q_, own (some ⟨b_32, 0, none⟩) q_ → q_ < w.heap.size → (tabS b al) q_ := fun q_ h hlt => absurd (Nat.le_trans K0.size ((ge_new hl_36) q_ h)) (by omega)
      clear hl_36
      replace ho_4 := ho_4.ext K_34
      replace hb_14 := hb_14.ext K_34
      replace hT_25 := hT_25.ext K_34
      replace K0 := K0.ext K_34
      refine RL.st rfl <| St1.append (xs := (rf old1 (T, []) i).2) (ys := ([(⟨((k).peer).node, ((k).peer).inc, 3⟩ : Peer)] : List Peer)) Try.underlying32 ty23 rfl rfl rfl ho_4 ho_35.sl (by first | omega | (simp only [lr]; omega)) (by decide) ?_
      intro a_41 c_42 w_43 ho_44 K_45 hm_46 hrm_47
      have pr_48 : ¬ own a_41 b_11 := hm_46.not pr_17 hb_14.lt
      have pr_49 : ∀ q_, own a_41 q_ → ¬ tabS b al q_ := hm_46.apart (fun q_ h1 h2 => pt_26 q_ h2 h1) hT_25.own_lt
      have pr_50 : ∀ q_, own a_41 q_ → ¬ own (some ⟨b_32, 0, none⟩) q_ := hm_46.apart (fun q_ h1 h2 => pr_37 q_ h2 h1) ho_35.own_lt
      have pg_51 : ∀ q_, own a_41 q_ → q_ < w.heap.size → (tabS b al) q_ := hm_46.inS pr_7 K0.size
      replace hb_14 := hb_14.keep K_45 pr_17
      replace hT_25 := hT_25.keepO K_45 pt_26
      replace ho_35 := ho_35.keepO K_45 pr_37
      replace K0 := K0.trans K_45 (fun x hlt hx => pr_7 x hx hlt)
      clear hm_46
      clear hrm_47
      refine RL.val (x_assignSl rfl) ?_
      refine RL.nil ?_
      refine Run.inBlock ?_
      refine Run.region ?_
      refine RL.val (litI (c := ((i + 1 : Nat) : Int)) (x_add rfl rfl (by omega) (by omega)) rfl) ?_
      refine RL.val (x_moveI rfl) ?_
      refine RL.nil ?_
      have e := (rf_succ old1 (T, []) i).trans (old1_yes hk hc28)
      refine ih1 (i + 1) _ _ ?_ (by omega)
      rw [e]
      refine ⟨_, _, ⟨rfl, rfl, rfl, trivial⟩, K0, hT_25, ho_44, (fun q_ h1 h2 => pr_49 q_ h2 h1), pt_28, pg_51, ?_⟩
      · omega
    · try simp only [br] at hc28
      refine Run.skip ?_
      refine Run.inBlock ?_
      refine Run.region ?_
      refine RL.val (litI (c := ((i + 1 : Nat) : Int)) (x_add rfl rfl (by omega) (by omega)) rfl) ?_
      refine RL.val (x_moveI rfl) ?_
      refine RL.nil ?_
      have hT_52 : TabAt w_21 b al cl ((rf old1 (T, []) i).1) := ⟨hb10, ho10, hap10, ok10⟩
      have pt_53 : ∀ q_, tabS b al q_ → ¬ own at1 q_ := (fun q_ h1 h2 => h1.elim (fun e => (fun h2 => pr_5 _ (.inl rfl) h2) (e ▸ h2)) (fun h => (fun q_ h1 h2 => pr_5 q_ (.inr h1) h2) q_ h h2))
      have pt_54 : ¬ tabS b al b_11 := (fun h1 => h1.elim (fun e => absurd e (by omega)) (fun h => pr_18 h))
      have pt_55 : ∀ q_, tabS b al q_ → q_ < w.heap.size → (tabS b al) q_ := (fun q_ h1 hlt => h1.elim (fun e => e ▸ (Or.inl rfl)) (fun h => (fun q_ h1 hlt => pr_6 q_ (.inr h1) hlt) q_ h hlt))
      clear hb10 ho10
      have e := (rf_succ old1 (T, []) i).trans (old1_no hk (by omega))
      refine ih1 (i + 1) _ _ ?_ (by omega)
      rw [e]
      refine ⟨_, _, ⟨rfl, rfl, rfl, trivial⟩, K0, hT_52, ho_4, pt_53, pt_55, pr_7, ?_⟩
      · omega
  · try simp only [br] at hc7
    refine Run.exit rfl ?_
    refine Run.seq ?_
    refine Run.region ?_
    refine RL.val (x_moveSl rfl) ?_
    refine RL.val (x_assignSl rfl) ?_
    refine RL.nil ?_
    refine Run.ret1 (v := .slice (at1) (((rf old1 (T, []) i).2).length) (ct1)) Try.func43 rfl rfl ?_
    have hil : i = 8 := by omega
    subst hil
    exact ⟨_, rfl, at1, ct1, rfl, ho_4, fun x hx => Nat.le_of_not_lt fun hlt => pr_5 x (pr_7 x hx hlt) hx, hO_3, K0⟩

set_option maxHeartbeats 4000000 in
theorem others_ (b : Nat) (al : Option Addr) (cl : Nat) (T : Tab) (tg : Int) (w : World) (hb : Blk w b (tabCells T al cl) 71) (hl8 : T.l.length = 8) :
    Calls Try.prog 62 #[.pointer (some ⟨b, 0, none⟩), .int .i64 (tg)] w (Ret (fun v w' => ∃ a' c', v = .slice a' (othersT T tg).length c' ∧ OwnSl w' 3 a' c' (othersT T tg) ∧ (∀ b, own a' b → w.heap.size ≤ b) ∧ Ext w w')) := by
  replace hb : Blk w b (([.bool (true), .int .i64 (T.self), .int .i64 (T.now)] : List Value) ++ flat T.l ++ ([.slice (al) (T.pings.length) (cl), .int .i64 (T.req), .bool (T.begun), .int .i64 (T.last), .int .i64 (T.target)] : List Value)) 71 := hb
  refine calls_run (n := 44) Try.func62 rfl rfl rfl ?_
  refine Run.seq ?_
  refine Run.region ?_
  refine RL.val (x_assignSl rfl) ?_
  refine RL.nil ?_
  refine Run.seq ?_
  refine Run.region ?_
  refine RL.val (x_assignSl rfl) ?_
  refine RL.nil ?_
  refine Run.seq ?_
  refine Run.seq ?_
  refine Run.region ?_
  refine RL.val (x_moveP rfl) ?_
  refine RL.val (x_nilCheck rfl) ?_
  refine RL.val (x_fld (o' := 3) Try.underlying71 rfl ty68 rfl rfl rfl) ?_
  refine RL.val (x_lds (cs := (flat T.l).toArray) ty68 rfl (arr_size hl8 rfl) (seg_arr hb)) ?_
  refine RL.val (x_moveI rfl) ?_
  refine RL.nil ?_
  refine Run.block ?_
  refine Run.loop (ι := Nat) (fun i ρ' w' => ∃ ah : Option Addr, ∃ ch : Nat, Holds ρ' [(0, .pointer (some ⟨b, 0, none⟩)), (1, .int .i64 (tg)), (5, .slice (ah) ((rf (oth1 T tg) [] i).length) (ch)), (11, .agg (flat T.l).toArray), (12, .int .i64 (((i : Nat) : Int)))] ∧ Ext w w' ∧ (Blk w' b (([.bool (true), .int .i64 (T.self), .int .i64 (T.now)] : List Value) ++ flat T.l ++ ([.slice (al) (T.pings.length) (cl), .int .i64 (T.req), .bool (T.begun), .int .i64 (T.last), .int .i64 (T.target)] : List Value)) 71) ∧ (OwnSl w' 3 ah ch (rf (oth1 T tg) [] i)) ∧ (¬ own ah b) ∧ (∀ q_, own ah q_ → w.heap.size ≤ q_) ∧ (i ≤ 8)) (fun i => 8 - i) 0 ?_ ?_
  · rw [rf_zero]
    have ho_6 := OwnSl.nil (α := Int) w 3
    refine ⟨_, _, ⟨rfl, rfl, rfl, rfl, rfl, trivial⟩, (Keeps.refl _ w), hb, ho_6, (own_none b), (fun q_ h1 => absurd h1 (own_none q_)), ?_⟩
    · omega
  clear hb
  rintro i ρ_7 w_1 ⟨ah, ch, hH_2, K0, hb, ho_3, pr_4, pr_5, hi⟩ ih1
  obtain ⟨ρ₀, rfl⟩ := hH_2.ex
  clear hH_2
  refine Run.seq ?_
  have hln := oth_len T tg i
  refine Run.region ?_
  refine RL.val (x_ltI rfl rfl) ?_
  refine RL.nil ?_
  refine Run.seq ?_
  refine Run.cond rfl (fun hc13 => ?_) (fun hc13 => ?_)
  · try simp only [br] at hc13
    refine Run.skip ?_
    refine Run.seq ?_
    refine Run.block ?_
    refine Run.seq ?_
    refine Run.region ?_
    refine RL.val (x_moveI rfl) ?_
    obtain ⟨k, hk⟩ : ∃ x_, (T.l)[i]? = some x_ := ⟨_, List.getElem?_eq_getElem (by rw [hl8]; omega)⟩
    refine RL.val (x_idxV (v := .agg #[.int .i64 (((k).peer).node), .int .i64 (((k).peer).inc), .int .i64 (((k).peer).status), .int .i64 ((k).since)]) (y := k) Try.underlying68 ty67 rfl rfl (by omega) hk rfl rfl) ?_
    refine RL.st rfl <| St1.alloc ty67 ?_
    intro b_8 w_9 hl_12 hb_11 K_10
    replace hb_11 : Blk w_9 b_8 [.int .i64 (0), .int .i64 (0), .int .i64 (0), .int .i64 (0)] 67 := hb_11
    have ne_13 : b < b_8 := Nat.lt_of_lt_of_le hb.lt hl_12
    have pr_14 : ¬ own ah b_8 := fun h => absurd (ho_3.own_lt _ h) (by omega)
    have : w.heap.size ≤ b_8 := Nat.le_trans K0.size hl_12
    clear hl_12
    replace hb := hb.ext K_10
    replace ho_3 := ho_3.ext K_10
    replace K0 := K0.ext K_10
    refine RL.val (x_assignI rfl) ?_
    refine RL.st rfl <| St1.store (v := .agg #[.int .i64 (((k).peer).node), .int .i64 (((k).peer).inc), .int .i64 (((k).peer).status), .int .i64 ((k).since)]) ty67 rfl rfl rfl (by simp [Value.cells, Value.oneCell']) hb_11 (by simp) ?_
    intro w_15 hb_11_ K_16
    have hb_11' : Blk w_15 b_8 [.int .i64 (((k).peer).node), .int .i64 (((k).peer).inc), .int .i64 (((k).peer).status), .int .i64 ((k).since)] 67 := hb_11_
    clear hb_11_
    replace hb := hb.keep K_16 (by simp only [one]; omega)
    replace ho_3 := ho_3.keepO K_16 (fun q_ hq_ eq_ => pr_14 (by simp only [one] at eq_; rw [← eq_]; exact hq_))
    replace K0 := K0.new K_16 (fun x hx => by simp only [one] at hx; omega)
    replace hb_11 := hb_11'
    clear hb_11'
    refine RL.nil ?_
    refine Run.seq ?_
    refine Run.region ?_
    refine RL.val (x_moveI rfl) ?_
    refine RL.val (x_moveP rfl) ?_
    refine RL.val (x_nilCheck rfl) ?_
    refine RL.val (x_fld (o' := 1) Try.underlying71 rfl ty3 rfl rfl rfl) ?_
    refine RL.val (x_ld (v := .int .i64 (T.self)) ty3 rfl rfl (hb.cl.field (i := 1) (seg_head rfl))) ?_
    refine RL.val (x_neI rfl rfl) ?_
    refine RL.val (x_moveB rfl) ?_
    refine RL.gval (wantedT rfl rfl rfl rfl) (fun hg => (x_moveI rfl)) ?_
    refine RL.gval (wantedT rfl rfl rfl rfl) (fun hg => (x_moveI rfl)) ?_
    refine RL.gval (wantedT rfl rfl rfl rfl) (fun hg => (x_neI (gvr hg) (gvr hg))) ?_
    refine RL.val (x_and rfl rfl rfl) ?_
    refine RL.val (x_moveB rfl) ?_
    refine RL.gval (wantedT rfl rfl rfl rfl) (fun hg => (x_fld (o' := 0) Try.underlying67 rfl ty23 rfl rfl rfl)) ?_
    refine RL.gval (wantedT rfl rfl rfl rfl) (fun hg => (x_fld (o' := 2) Try.underlying23 rfl ty3 rfl (gvr hg) rfl)) ?_
    refine RL.gval (wantedT rfl rfl rfl rfl) (fun hg => (x_ld (v := .int .i64 (((k).peer).status)) ty3 (gvr hg) rfl (hb_11.cl.field (i := 2) rfl))) ?_
    refine RL.gval (wantedT rfl rfl rfl rfl) (fun hg => (x_eqI (gvr hg) rfl)) ?_
    refine RL.val (x_and rfl rfl rfl) ?_
    refine RL.val (x_moveB rfl) ?_
    refine RL.gval (wantedT rfl rfl rfl rfl) (fun hg => (x_moveSl rfl)) ?_
    refine RL.gval (wantedT rfl rfl rfl rfl) (fun hg => (x_lenSl Try.underlying41 (gvr hg))) ?_
    refine RL.gval (wantedT rfl rfl rfl rfl) (fun hg => (x_ltI (gvr hg) rfl)) ?_
    refine RL.val (x_and rfl rfl rfl) ?_
    refine RL.nil ?_
    refine Run.cond rfl (fun hc37 => ?_) (fun hc37 => ?_)
    · try simp only [br] at hc37
      refine Run.region ?_
      refine RL.val (x_moveSl rfl) ?_
      refine RL.val (x_moveI rfl) ?_
      refine RL.st rfl <| St1.buildSlice ([((i : Nat) : Int)] : List Int) Try.underlying41 ty3 rfl rfl (by first | decide | (simp [Enc.size])) ?_
      intro b_17 w_18 hl_21 ho_20 K_19
      have pr_22 : ¬ own (some ⟨b_17, 0, none⟩) b := notNew (ge_new hl_21) hb.lt
      have pr_23 : ∀ q_, own (some ⟨b_17, 0, none⟩) q_ → ¬ own ah q_ := apartNew (ge_new hl_21) ho_3.own_lt
      have pr_24 : ¬ own (some ⟨b_17, 0, none⟩) b_8 := notNew (ge_new hl_21) hb_11.lt
      have pg_25 : ∀ q_, own (some ⟨b_17, 0, none⟩) q_ → w.heap.size ≤ q_ := fun q_ h => Nat.le_trans K0.size ((ge_new hl_21) q_ h)
      clear hl_21
      replace hb := hb.ext K_19
      replace ho_3 := ho_3.ext K_19
      replace hb_11 := hb_11.ext K_19
      replace K0 := K0.ext K_19
      refine RL.st rfl <| St1.append (xs := rf (oth1 T tg) [] i) (ys := ([((i : Nat) : Int)] : List Int)) Try.underlying41 ty3 rfl rfl rfl ho_3 ho_20.sl (by first | omega | (simp only [lr]; omega)) (by decide) ?_
      intro a_26 c_27 w_28 ho_29 K_30 hm_31 hrm_32
      have pr_33 : ¬ own a_26 b := hm_31.not pr_4 hb.lt
      have pr_34 : ¬ own a_26 b_8 := hm_31.not pr_14 hb_11.lt
      have pr_35 : ∀ q_, own a_26 q_ → ¬ own (some ⟨b_17, 0, none⟩) q_ := hm_31.apart (fun q_ h1 h2 => pr_23 q_ h2 h1) ho_20.own_lt
      have pg_36 : ∀ q_, own a_26 q_ → w.heap.size ≤ q_ := hm_31.ge pr_5 K0.size
      replace hb := hb.keep K_30 pr_4
      replace hb_11 := hb_11.keep K_30 pr_14
      replace ho_20 := ho_20.keepO K_30 pr_23
      replace K0 := K0.new K_30 pr_5
      clear hm_31
      clear hrm_32
      refine RL.val (x_assignSl rfl) ?_
      refine RL.nil ?_
      refine Run.inBlock ?_
      refine Run.region ?_
      refine RL.val (litI (c := ((i + 1 : Nat) : Int)) (x_add rfl rfl (by omega) (by omega)) rfl) ?_
      refine RL.val (x_moveI rfl) ?_
      refine RL.nil ?_
      have e := (rf_succ (oth1 T tg) [] i).trans (oth1_yes hk (by omega))
      refine ih1 (i + 1) _ _ ?_ (by omega)
      rw [e]
      refine ⟨_, _, ⟨rfl, rfl, rfl, rfl, rfl, trivial⟩, K0, hb, ho_29, pr_33, pg_36, ?_⟩
      · omega
    · try simp only [br] at hc37
      refine Run.skip ?_
      refine Run.inBlock ?_
      refine Run.region ?_
      refine RL.val (litI (c := ((i + 1 : Nat) : Int)) (x_add rfl rfl (by omega) (by omega)) rfl) ?_
      refine RL.val (x_moveI rfl) ?_
      refine RL.nil ?_
      have e := (rf_succ (oth1 T tg) [] i).trans (oth1_no hk (by omega))
      refine ih1 (i + 1) _ _ ?_ (by omega)
      rw [e]
      refine ⟨_, _, ⟨rfl, rfl, rfl, rfl, rfl, trivial⟩, K0, hb, ho_3, pr_4, pr_5, ?_⟩
      · omega
  · try simp only [br] at hc13
    refine Run.exit rfl ?_
    refine Run.seq ?_
    refine Run.region ?_
    refine RL.val (x_moveSl rfl) ?_
    refine RL.val (x_assignSl rfl) ?_
    refine RL.nil ?_
    refine Run.ret1 (v := .slice (ah) ((rf (oth1 T tg) [] i).length) (ch)) Try.func62 rfl rfl ?_
    have hil : i = 8 := by omega
    subst hil
    exact ⟨_, rfl, ah, ch, rfl, ho_3, pr_5, K0⟩

end Go.Proofs.Ytagfdmdajmkddaa
