/-
  SwimAlike.
-/
import Derived.Test.YtagfdmdajmkddaaRows
import Derived.Test.YtagfdmdajmkddaaLj
namespace Go.Proofs.Ytagfdmdajmkddaa
attribute [local irreducible] St1 RL RA RT RT1 Run

open Sa
def Sa.hear' (T : Tab) (p : Peer) (t : Int) : Tab × List Peer := hear1 (passT T t, []) p
theorem greater_trans {a b c : Peer} (h1 : greaterB a b = true) (h2 : greaterB b c = true) : greaterB a c = true := by rw [greater_iff] at *; omega
theorem greater_tot {a b : Peer} (hn : a.node = b.node) (h : ¬ greaterB a b = true) : a = b ∨ greaterB b a = true := by
  rw [greater_iff] at *
  by_cases e : a.inc = b.inc ∧ a.status = b.status
  · exact .inl (Peer.ext' hn e.1 e.2)
  · exact .inr (by omega)
theorem greater_anti {a b : Peer} (h1 : greaterB a b = true) (h2 : greaterB b a = true) : False := by rw [greater_iff] at *; omega
/-- what is known of a node is the greatest of what was heard of it -/
def Best (R : List Peer) (n : Nat) (k : KnownM) : Prop := (k.peer.status = 0 ∧ ∀ r ∈ R, mayB r = true → r.node ≠ (n : Int)) ∨
  (k.peer ∈ R ∧ mayB k.peer = true ∧ k.peer.node = (n : Int) ∧ ∀ r ∈ R, mayB r = true → r.node = (n : Int) → r = k.peer ∨ greaterB k.peer r = true)
def Knows (R : List Peer) (T : Tab) : Prop := (0 ≤ T.self ∧ T.self < 2) ∧ ∀ n, 2 ≤ n → n < 8 → ∃ k, T.l[n]? = some k ∧ Best R n k
theorem Best.skip {R : List Peer} {n : Nat} {k : KnownM} {p : Peer} (h : Best R n k) (hp : mayB p = true → p.node ≠ (n : Int)) : Best (R ++ [p]) n k := by
  rcases h with ⟨h1, h2⟩ | ⟨h1, h2, h3, h4⟩
  · refine .inl ⟨h1, ?_⟩
    intro r hr hm
    rcases List.mem_append.1 hr with hr | hr
    · exact h2 r hr hm
    · simp only [List.mem_singleton] at hr; subst hr; exact hp hm
  · refine .inr ⟨List.mem_append_left _ h1, h2, h3, ?_⟩
    intro r hr hm hn
    rcases List.mem_append.1 hr with hr | hr
    · exact h4 r hr hm hn
    · simp only [List.mem_singleton] at hr; subst hr; exact absurd hn (hp hm)
theorem Knows.heard {R : List Peer} {T : Tab} {p : Peer} {t : Int} (h : Knows R T) (hl : T.l.length = 8) (hp : 1 < p.node) : Knows (R ++ [p]) (hear T [p] t).1 := by
  have e : Sa.hear' T p t = hear T [p] t := rfl
  rw [← e]
  unfold Sa.hear' hear1
  obtain ⟨hs, hk⟩ := h
  split
  · rename_i hm
    refine ⟨hs, fun n h2 h8 => ?_⟩
    obtain ⟨k, hk1, hk2⟩ := hk n h2 h8
    exact ⟨k, hk1, hk2.skip (fun e => by rw [hm] at e; cases e)⟩
  · rename_i hm
    have hm' : mayB p = true := by simpa using hm
    have hr := (may_range hm').1
    have hne : ¬ p.node = T.self := by omega
    rw [if_neg (show ¬ p.node = (passT T t, ([] : List Peer)).1.self from hne)]
    obtain ⟨k, hk1, hk2⟩ := hk p.node.toNat (by omega) (by omega)
    have hkp : (passT T t, ([] : List Peer)).1.l[p.node.toNat]? = some k := hk1
    rw [hkp]
    simp only
    have hpn : ((p.node.toNat : Nat) : Int) = p.node := by omega
    split
    · rename_i hg
      refine ⟨hs, fun n h2 h8 => ?_⟩
      by_cases hn : n = p.node.toNat
      · subst hn
        refine ⟨⟨p, (passT T t).now⟩, ?_, .inr ⟨List.mem_append_right _ (List.mem_singleton.2 rfl), hm', hpn.symm, ?_⟩⟩
        · simp only [learnT]
          rw [List.getElem?_set_self (by simp only [passT]; omega)]
        · intro r hr' hrm hrn
          rcases List.mem_append.1 hr' with hr' | hr'
          · rcases hk2 with ⟨_, q⟩ | ⟨_, _, q3, q4⟩
            · exact absurd hrn (q r hr' hrm)
            · rcases hg with hg | hg
              · have := (may_range ‹mayB k.peer = true›).2.2.2.1; omega
              · rcases q4 r hr' hrm hrn with rfl | q
                · exact .inr hg
                · exact .inr (greater_trans hg q)
          · simp only [List.mem_singleton] at hr'; exact .inl hr'
      · obtain ⟨k', hk1', hk2'⟩ := hk n h2 h8
        refine ⟨k', ?_, hk2'.skip (fun _ e => hn (by omega))⟩
        simp only [learnT]
        rw [List.getElem?_set_ne (by omega)]
        exact hk1'
    · rename_i hg
      refine ⟨hs, fun n h2 h8 => ?_⟩
      by_cases hn : n = p.node.toNat
      · subst hn
        refine ⟨k, hk1, ?_⟩
        rcases hk2 with ⟨q, _⟩ | ⟨q1, q2, q3, q4⟩
        · exact absurd (.inl q) hg
        · refine .inr ⟨List.mem_append_left _ q1, q2, q3, ?_⟩
          intro r hr' hrm hrn
          rcases List.mem_append.1 hr' with hr' | hr'
          · exact q4 r hr' hrm hrn
          · simp only [List.mem_singleton] at hr'
            subst hr'
            exact greater_tot (hrn.trans q3.symm) (fun e => hg (.inr e))
      · obtain ⟨k', hk1', hk2'⟩ := hk n h2 h8
        exact ⟨k', hk1', hk2'.skip (fun _ e => hn (by omega))⟩
theorem Best.same {R S : List Peer} {n : Nat} {k j : KnownM} (hk : Best R n k) (hj : Best S n j) (h1 : ∀ r ∈ R, r ∈ S) (h2 : ∀ r ∈ S, r ∈ R) : (k.peer.status = 0 ∧ j.peer.status = 0) ∨ k.peer = j.peer := by
  rcases hk with ⟨a1, a2⟩ | ⟨a1, a2, a3, a4⟩
  · rcases hj with ⟨b1, b2⟩ | ⟨b1, b2, b3, b4⟩
    · exact .inl ⟨a1, b1⟩
    · exact absurd b3 (a2 _ (h2 _ b1) b2)
  · rcases hj with ⟨b1, b2⟩ | ⟨b1, b2, b3, b4⟩
    · exact absurd a3 (b2 _ (h1 _ a1) a2)
    · refine .inr ?_
      rcases a4 _ (h2 _ b1) b2 b3 with e | e
      · exact e.symm
      · rcases b4 _ (h1 _ a1) a2 a3 with e' | e'
        · exact e'
        · exact (greater_anti e e').elim
def whenV (nows : List Int) (i : Nat) : Int := (nows[i]?).getD 0
theorem en22 : Enters Try.prog 22 := enters_of Try.func22 rfl (by kernel_rfl)
theorem en25 : Enters Try.prog 25 := enters_of Try.func25 rfl (by kernel_rfl)
set_option maxRecDepth 100000 in
set_option maxHeartbeats 4000000 in
theorem equal_peer (a : Option Addr) (xs : List Peer) (c : Nat) (d : Option Addr) (ys : List Peer) (e : Nat) (w : World) (hs : SlOf w a xs) (ht : SlOf w d ys) (hl : xs.length ≤ 4294967295) :
    Calls Try.prog 25 #[.slice (a) (xs.length) (c), .slice (d) (ys.length) (e)] w (Ret (fun v w' => v = .bool (decide (xs = ys)) ∧ Ext w w')) := by
  refine calls_run (n := 26) Try.func25 rfl rfl rfl ?_
  refine Run.seq ?_
  refine Run.region ?_
  refine RL.val (x_assignB rfl) ?_
  refine RL.nil ?_
  refine Run.seq ?_
  refine Run.seq ?_
  refine Run.region ?_
  refine RL.val (x_moveSl rfl) ?_
  refine RL.val (x_lenSl Try.underlying32 rfl) ?_
  refine RL.val (x_moveSl rfl) ?_
  refine RL.val (x_lenSl Try.underlying32 rfl) ?_
  refine RL.val (x_neI rfl rfl) ?_
  refine RL.nil ?_
  refine Run.cond rfl (fun hc10 => ?_) (fun hc10 => ?_)
  · try simp only [br] at hc10
    refine Run.seq ?_
    refine Run.region ?_
    refine RL.val (x_assignB rfl) ?_
    refine RL.nil ?_
    refine Run.ret1 (v := .bool (false)) Try.func25 rfl rfl ?_
    exact ⟨_, rfl, by rw [decide_eq_false (fun h => hc10 (by rw [h]))], (Keeps.refl _ w)⟩
  · try simp only [br] at hc10
    have hlen : xs.length = ys.length := by omega
    refine Run.skip ?_
    refine Run.seq ?_
    refine Run.seq ?_
    refine Run.region ?_
    refine RL.val (x_moveSl rfl) ?_
    refine RL.val (x_lenSl Try.underlying32 rfl) ?_
    refine RL.val (x_moveI rfl) ?_
    refine RL.nil ?_
    refine Run.block ?_
    refine Run.loop (ι := Nat) (fun i ρ' w' => Holds ρ' [(0, .slice (a) (xs.length) (c)), (1, .slice (d) (ys.length) (e)), (12, .int .i64 (((xs.length : Nat) : Int))), (13, .int .i64 (((i : Nat) : Int)))] ∧ Ext w w' ∧ (i ≤ xs.length) ∧ (SameB xs ys i)) (fun i => xs.length - i) 0 ?_ ?_
    · refine ⟨⟨rfl, rfl, rfl, rfl, trivial⟩, (Keeps.refl _ w), ?_, ?_⟩
      · omega
      · exact SameB.zero _ _
    rintro i ρ_3 w_1 ⟨hH_2, K0, hi, hno⟩ ih1
    obtain ⟨ρ₀, rfl⟩ := hH_2.ex
    clear hH_2
    refine Run.seq ?_
    refine Run.region ?_
    refine RL.val (x_ltI rfl rfl) ?_
    refine RL.nil ?_
    refine Run.seq ?_
    refine Run.cond rfl (fun hc14 => ?_) (fun hc14 => ?_)
    · try simp only [br] at hc14
      refine Run.skip ?_
      refine Run.seq ?_
      refine Run.block ?_
      refine Run.seq ?_
      refine Run.region ?_
      refine RL.val (x_moveI rfl) ?_
      refine RL.val (x_assignI rfl) ?_
      refine RL.nil ?_
      refine Run.seq ?_
      obtain ⟨b_6, o_7, x, hx, ha_8, hc_9⟩ := hs.el (i := i) (by first | omega | (simp only [List.length_set]; omega))
      have hc_9_lt := hc_9.lt
      replace hc_9 := hc_9.ext K0
      obtain ⟨b_12, o_13, y, hy, ha_14, hc_15⟩ := ht.el (i := i) (by first | omega | (simp only [List.length_set]; omega))
      have hc_15_lt := hc_15.lt
      replace hc_15 := hc_15.ext K0
      refine Run.draw' (m := 9) (by kernel_rfl) rfl ?_
      intro w_4 K_5
      replace hc_9 := hc_9.ext K_5
      replace hc_15 := hc_15.ext K_5
      replace K0 := K0.ext K_5
      refine RA.take (v := .slice (a) (xs.length) (c)) 0 rfl (by kernel_rfl) rfl (by rintro _ rfl; exact (x_moveSl rfl)) ?_
      refine RA.take (v := .int .i64 (((i : Nat) : Int))) 1 rfl (by kernel_rfl) rfl (by rintro _ rfl; exact (x_moveI rfl)) ?_
      refine RA.take (v := .pointer (some ⟨b_6, o_7 + i * 3, none⟩)) 2 rfl (by kernel_rfl) rfl (by rintro _ rfl; exact (x_idxN Try.underlying32 ty23 rfl rfl ha_8 (by first | omega | (simp only [List.length_set]; omega)))) ?_
      refine RA.take (v := .agg #[.int .i64 ((x).node), .int .i64 ((x).inc), .int .i64 ((x).status)]) 3 rfl (by kernel_rfl) rfl (by rintro _ rfl; exact (x_ldV (v := .agg #[.int .i64 ((x).node), .int .i64 ((x).inc), .int .i64 ((x).status)]) (y := x) ty23 rfl hc_9 rfl)) ?_
      refine RA.take (v := .slice (d) (ys.length) (e)) 4 rfl (by kernel_rfl) rfl (by rintro _ rfl; exact (x_moveSl rfl)) ?_
      refine RA.take (v := .int .i64 (((i : Nat) : Int))) 5 rfl (by kernel_rfl) rfl (by rintro _ rfl; exact (x_moveI rfl)) ?_
      refine RA.take (v := .pointer (some ⟨b_12, o_13 + i * 3, none⟩)) 6 rfl (by kernel_rfl) rfl (by rintro _ rfl; exact (x_idxN Try.underlying32 ty23 rfl rfl ha_14 (by first | omega | (simp only [List.length_set]; omega)))) ?_
      refine RA.take (v := .agg #[.int .i64 ((y).node), .int .i64 ((y).inc), .int .i64 ((y).status)]) 7 rfl (by kernel_rfl) rfl (by rintro _ rfl; exact (x_ldV (v := .agg #[.int .i64 ((y).node), .int .i64 ((y).inc), .int .i64 ((y).status)]) (y := y) ty23 rfl hc_15 rfl)) ?_
      refine RA.take (v := .bool (!decide (x = y))) 8 rfl (by kernel_rfl) rfl (by rintro _ rfl; exact (x_neA (by kernel_rfl) rfl rfl (eq_Peer x y))) ?_
      refine RA.done (by kernel_rfl) ?_
      refine Run.cond rfl (fun hc24 => ?_) (fun hc24 => ?_)
      · try simp only [br] at hc24
        refine Run.seq ?_
        refine Run.region ?_
        refine RL.val (x_assignB rfl) ?_
        refine RL.nil ?_
        refine Run.ret1 (v := .bool (false)) Try.func25 rfl rfl ?_
        exact ⟨_, rfl, by rw [decide_eq_false (ne_of_at hx hy hc24)], K0⟩
      · try simp only [br] at hc24
        refine Run.skip ?_
        refine Run.inBlock ?_
        refine Run.region ?_
        refine RL.val (litI (c := ((i + 1 : Nat) : Int)) (x_add rfl rfl (by omega) (by omega)) rfl) ?_
        refine RL.val (x_moveI rfl) ?_
        refine RL.nil ?_
        refine ih1 (i + 1) _ _ ?_ (by omega)
        refine ⟨⟨rfl, rfl, rfl, rfl, trivial⟩, K0, ?_, ?_⟩
        · omega
        · exact hno.step hx hy hc24
    · try simp only [br] at hc14
      refine Run.exit rfl ?_
      refine Run.seq ?_
      refine Run.region ?_
      refine RL.val (x_assignB rfl) ?_
      refine RL.nil ?_
      refine Run.ret1 (v := .bool (true)) Try.func25 rfl rfl ?_
      exact ⟨_, rfl, by rw [decide_eq_true (hno.all hlen (by omega))], K0⟩

set_option maxRecDepth 100000 in
set_option maxHeartbeats 4000000 in
theorem clone_peer (a : Option Addr) (xs : List Peer) (c : Nat) (w : World) (hs : SlOf w a xs) (hl : xs.length ≤ 4294967295) :
    Calls Try.prog 22 #[.slice (a) (xs.length) (c)] w (Ret (fun v w' => ∃ a' c', v = .slice a' xs.length c' ∧ OwnSl w' 23 a' c' xs ∧ (∀ b, own a' b → w.heap.size ≤ b) ∧ Ext w w')) := by
  refine calls_run (n := 8) Try.func22 rfl rfl rfl ?_
  refine Run.seq ?_
  refine Run.region ?_
  refine RL.val (x_assignSl rfl) ?_
  refine RL.nil ?_
  refine Run.seq ?_
  refine Run.seq ?_
  refine Run.region ?_
  refine RL.val (x_moveSl rfl) ?_
  refine RL.val (x_slNil Try.underlying32 rfl rfl) ?_
  refine RL.nil ?_
  refine Run.cond rfl (fun hc4 => ?_) (fun hc4 => ?_)
  · skip
    refine Run.seq ?_
    refine Run.region ?_
    refine RL.val (x_assignSl rfl) ?_
    refine RL.nil ?_
    refine Run.ret1 (v := .slice (none) (0) (0)) Try.func22 rfl rfl ?_
    have hx := hs.nil_of hc4; subst hx; exact ⟨_, rfl, none, 0, rfl, OwnSl.nil _ _, fun b h => absurd h (own_none b), (Keeps.refl _ w)⟩
  · skip
    refine Run.skip ?_
    refine Run.seq ?_
    refine Run.region ?_
    refine RL.st rfl <| St1.buildSlice ([] : List Peer) Try.underlying32 ty23 rfl rfl (by first | decide | (simp [Enc.size])) ?_
    intro b_1 w_2 hl_5 ho_4 K_3
    have pg_6 : ∀ q_, own (some ⟨b_1, 0, none⟩) q_ → w.heap.size ≤ q_ := fun q_ h => Nat.le_trans (Nat.le_refl _) ((ge_new hl_5) q_ h)
    clear hl_5
    have K0 := (K_3 : Ext w _)
    refine RL.val (x_moveSl rfl) ?_
    refine RL.st rfl <| St1.append (xs := ([] : List Peer)) (ys := xs) Try.underlying32 ty23 rfl rfl rfl ho_4 (hs.ext K0) (by first | omega | (simp only [lr]; omega)) (by decide) ?_
    intro a_7 c_8 w_9 ho_10 K_11 hm_12 hrm_13
    have pg_14 : ∀ q_, own a_7 q_ → w.heap.size ≤ q_ := hm_12.ge pg_6 K0.size
    replace K0 := K0.new K_11 pg_6
    clear hm_12
    clear hrm_13
    refine RL.val (x_assignSl rfl) ?_
    refine RL.nil ?_
    refine Run.ret1 (v := .slice (a_7) ((([] : List Peer) ++ xs).length) (c_8)) Try.func22 rfl rfl ?_
    exact ⟨_, rfl, a_7, c_8, by rw [List.nil_append], by simpa using ho_10, pg_14, K0⟩

end Go.Proofs.Ytagfdmdajmkddaa
