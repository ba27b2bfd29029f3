/-
  SwimAlike.
-/
import Derived.Test.YtagfdmdajmkddaaRows
import Derived.Test.YtagfdmdajmkddaaSj
namespace Go.Proofs.Ytagfdmdajmkddaa
attribute [local irreducible] St1 RL RA RT RT1 Run

open Sa
def Sa.hear' (T : Tab) (p : Peer) (t : Int) : Tab × List Peer := hear1 (passT T t, []) p
theorem greater_trans {a b c : Peer} (h1 : greaterB a b = true) (h2 : greaterB b c = true) : greaterB a c = true := by rw [greater_iff] at *; omega
theorem greater_tot {a b : Peer} (hn : a.node = b.node) (h : ¬ greaterB a b = true) : a = b ∨ greaterB b a = true := by
  rw [greater_iff] at *
  by_cases e : a.inc = b.inc ∧ a.status = b.status
  · exact .inl (Peer.ext' hn e.1 e.2)
  · exact .inr (by omega)
theorem greater_anti {a b : Peer} (h1 : greaterB a b = true) (h2 : greaterB b a = true) : False := by rw [greater_iff] at *; omega
/-- what is known of a node is the greatest of what was heard of it -/
def Best (R : List Peer) (n : Nat) (k : KnownM) : Prop := (k.peer.status = 0 ∧ ∀ r ∈ R, mayB r = true → r.node ≠ (n : Int)) ∨
  (k.peer ∈ R ∧ mayB k.peer = true ∧ k.peer.node = (n : Int) ∧ ∀ r ∈ R, mayB r = true → r.node = (n : Int) → r = k.peer ∨ greaterB k.peer r = true)
def Knows (R : List Peer) (T : Tab) : Prop := (0 ≤ T.self ∧ T.self < 2) ∧ ∀ n, 2 ≤ n → n < 8 → ∃ k, T.l[n]? = some k ∧ Best R n k
theorem Best.skip {R : List Peer} {n : Nat} {k : KnownM} {p : Peer} (h : Best R n k) (hp : mayB p = true → p.node ≠ (n : Int)) : Best (R ++ [p]) n k := by
  rcases h with ⟨h1, h2⟩ | ⟨h1, h2, h3, h4⟩
  · refine .inl ⟨h1, ?_⟩
    intro r hr hm
    rcases List.mem_append.1 hr with hr | hr
    · exact h2 r hr hm
    · simp only [List.mem_singleton] at hr; subst hr; exact hp hm
  · refine .inr ⟨List.mem_append_left _ h1, h2, h3, ?_⟩
    intro r hr hm hn
    rcases List.mem_append.1 hr with hr | hr
    · exact h4 r hr hm hn
    · simp only [List.mem_singleton] at hr; subst hr; exact absurd hn (hp hm)
theorem Knows.heard {R : List Peer} {T : Tab} {p : Peer} {t : Int} (h : Knows R T) (hl : T.l.length = 8) (hp : 1 < p.node) : Knows (R ++ [p]) (hear T [p] t).1 := by
  have e : Sa.hear' T p t = hear T [p] t := rfl
  rw [← e]
  unfold Sa.hear' hear1
  obtain ⟨hs, hk⟩ := h
  split
  · rename_i hm
    refine ⟨hs, fun n h2 h8 => ?_⟩
    obtain ⟨k, hk1, hk2⟩ := hk n h2 h8
    exact ⟨k, hk1, hk2.skip (fun e => by rw [hm] at e; cases e)⟩
  · rename_i hm
    have hm' : mayB p = true := by simpa using hm
    have hr := (may_range hm').1
    have hne : ¬ p.node = T.self := by omega
    rw [if_neg (show ¬ p.node = (passT T t, ([] : List Peer)).1.self from hne)]
    obtain ⟨k, hk1, hk2⟩ := hk p.node.toNat (by omega) (by omega)
    have hkp : (passT T t, ([] : List Peer)).1.l[p.node.toNat]? = some k := hk1
    rw [hkp]
    simp only
    have hpn : ((p.node.toNat : Nat) : Int) = p.node := by omega
    split
    · rename_i hg
      refine ⟨hs, fun n h2 h8 => ?_⟩
      by_cases hn : n = p.node.toNat
      · subst hn
        refine ⟨⟨p, (passT T t).now⟩, ?_, .inr ⟨List.mem_append_right _ (List.mem_singleton.2 rfl), hm', hpn.symm, ?_⟩⟩
        · simp only [learnT]
          rw [List.getElem?_set_self (by simp only [passT]; omega)]
        · intro r hr' hrm hrn
          rcases List.mem_append.1 hr' with hr' | hr'
          · rcases hk2 with ⟨_, q⟩ | ⟨_, _, q3, q4⟩
            · exact absurd hrn (q r hr' hrm)
            · rcases hg with hg | hg
              · have := (may_range ‹mayB k.peer = true›).2.2.2.1; omega
              · rcases q4 r hr' hrm hrn with rfl | q
                · exact .inr hg
                · exact .inr (greater_trans hg q)
          · simp only [List.mem_singleton] at hr'; exact .inl hr'
      · obtain ⟨k', hk1', hk2'⟩ := hk n h2 h8
        refine ⟨k', ?_, hk2'.skip (fun _ e => hn (by omega))⟩
        simp only [learnT]
        rw [List.getElem?_set_ne (by omega)]
        exact hk1'
    · rename_i hg
      refine ⟨hs, fun n h2 h8 => ?_⟩
      by_cases hn : n = p.node.toNat
      · subst hn
        refine ⟨k, hk1, ?_⟩
        rcases hk2 with ⟨q, _⟩ | ⟨q1, q2, q3, q4⟩
        · exact absurd (.inl q) hg
        · refine .inr ⟨List.mem_append_left _ q1, q2, q3, ?_⟩
          intro r hr' hrm hrn
          rcases List.mem_append.1 hr' with hr' | hr'
          · exact q4 r hr' hrm hrn
          · simp only [List.mem_singleton] at hr'
            subst hr'
            exact greater_tot (hrn.trans q3.symm) (fun e => hg (.inr e))
      · obtain ⟨k', hk1', hk2'⟩ := hk n h2 h8
        exact ⟨k', hk1', hk2'.skip (fun _ e => hn (by omega))⟩
theorem Best.same {R S : List Peer} {n : Nat} {k j : KnownM} (hk : Best R n k) (hj : Best S n j) (h1 : ∀ r ∈ R, r ∈ S) (h2 : ∀ r ∈ S, r ∈ R) : (k.peer.status = 0 ∧ j.peer.status = 0) ∨ k.peer = j.peer := by
  rcases hk with ⟨a1, a2⟩ | ⟨a1, a2, a3, a4⟩
  · rcases hj with ⟨b1, b2⟩ | ⟨b1, b2, b3, b4⟩
    · exact .inl ⟨a1, b1⟩
    · exact absurd b3 (a2 _ (h2 _ b1) b2)
  · rcases hj with ⟨b1, b2⟩ | ⟨b1, b2, b3, b4⟩
    · exact absurd a3 (b2 _ (h1 _ a1) a2)
    · refine .inr ?_
      rcases a4 _ (h2 _ b1) b2 b3 with e | e
      · exact e.symm
      · rcases b4 _ (h1 _ a1) a2 a3 with e' | e'
        · exact e'
        · exact (greater_anti e e').elim
theorem peersL_congr : ∀ (x y : List KnownM), x.length = y.length → (∀ (n : Nat) (k j : KnownM), x[n]? = some k → y[n]? = some j → (k.peer.status = 0 ∧ j.peer.status = 0) ∨ k.peer = j.peer) → peersL x = peersL y
  | [], [], _, _ => rfl
  | [], _ :: _, h, _ => by simp at h
  | _ :: _, [], h, _ => by simp at h
  | k :: x, j :: y, h, hh => by
    have ih := peersL_congr x y (by simpa using h) (fun n k' j' h1 h2 => hh (n + 1) k' j' (by simpa using h1) (by simpa using h2))
    unfold peersL at ih ⊢
    rcases hh 0 k j rfl rfl with ⟨h1, h2⟩ | h1
    · simp [List.filter_cons, h1, h2, ih]
    · simp only [List.filter_cons, h1]
      split
      · simp [h1, ih]
      · exact ih
theorem others_drop {T : Tab} (h : TabOk T) : (peersL T.l).filter (fun x => !decide (x.node < 2)) = peersL (T.l.drop 2) := by
  have hl := h.len
  obtain ⟨k0, k1, r, hr⟩ : ∃ k0 k1 r, T.l = k0 :: k1 :: r := by
    match hT : T.l with
    | [] => rw [hT] at hl; simp at hl
    | [_] => rw [hT] at hl; simp at hl
    | a :: b :: c => exact ⟨a, b, c, rfl⟩
  have h0 := (h.known 0 k0 (by rw [hr]; rfl)).2.2
  have h1 := (h.known 1 k1 (by rw [hr]; rfl)).2.2
  have hx : ∀ p ∈ peersL r, (!decide (p.node < 2)) = true := by
    intro p hp
    simp only [peersL, List.mem_map, List.mem_filter] at hp
    obtain ⟨k, ⟨hk, hs⟩, rfl⟩ := hp
    obtain ⟨i, hi, rfl⟩ := List.getElem_of_mem hk
    have := (h.known (i + 2) r[i] (by rw [hr]; simp [hi])).2.2 (by simpa using hs)
    simp; omega
  have e : peersL T.l = peersL [k0, k1] ++ peersL r := by rw [hr]; unfold peersL; rw [← List.map_append, ← List.filter_append]; rfl
  have e2 : T.l.drop 2 = r := by rw [hr]; rfl
  rw [e, e2, List.filter_append, List.filter_eq_self.2 hx]
  have e3 : (peersL [k0, k1]).filter (fun x => !decide (x.node < 2)) = [] := by
    rw [List.filter_eq_nil_iff]
    intro p hp
    simp only [peersL, List.mem_map, List.mem_filter, List.mem_cons, List.not_mem_nil, or_false] at hp
    obtain ⟨k, ⟨hk, hs⟩, rfl⟩ := hp
    rcases hk with rfl | rfl
    · have := h0 (by simpa using hs); simp; omega
    · have := h1 (by simpa using hs); simp; omega
  rw [e3, List.nil_append]
theorem alike_eq {A B : Tab} {R S : List Peer} (ha : TabOk A) (hb : TabOk B) (hR : Knows R A) (hS : Knows S B) (h1 : ∀ r ∈ R, r ∈ S) (h2 : ∀ r ∈ S, r ∈ R) :
    (peersL A.l).filter (fun x => !decide (x.node < 2)) = (peersL B.l).filter (fun x => !decide (x.node < 2)) := by
  rw [others_drop ha, others_drop hb]
  refine peersL_congr _ _ (by rw [List.length_drop, List.length_drop, ha.len, hb.len]) ?_
  intro n k j hk hj
  rw [List.getElem?_drop] at hk hj
  have hn : 2 + n < 8 := by rw [← ha.len]; exact (List.getElem?_eq_some_iff.1 hk).1
  obtain ⟨k', hk', hbk⟩ := hR.2 (2 + n) (by omega) hn
  obtain ⟨j', hj', hbj⟩ := hS.2 (2 + n) (by omega) hn
  rw [hk] at hk'; cases hk'
  rw [hj] at hj'; cases hj'
  exact hbk.same hbj h1 h2
theorem knows_new {n : Int} (h : 0 ≤ n ∧ n < 2) : Knows [] (newT n) := by
  refine ⟨h, fun m h2 h8 => ⟨zk, ?_, .inl ⟨rfl, by simp⟩⟩⟩
  simp only [newT]
  rw [List.getElem?_set_ne (by omega), rep_get (by omega)]
def whenV (nows : List Int) (i : Nat) : Int := (nows[i]?).getD 0
theorem whenV_le {nows : List Int} (h : ∀ z ∈ nows, z ≤ 9223372036854775807) (i : Nat) : whenV nows i ≤ 9223372036854775807 := by
  unfold whenV
  cases hx : nows[i]? with
  | none => simp
  | some z => exact h z (List.mem_of_getElem? hx)
theorem modN {k : Int} {m : Nat} (h0 : 0 ≤ k) (hm : 0 < m) : ∃ j : Nat, k.tmod ((m : Nat) : Int) = (j : Int) ∧ j < m := by
  have h1 : 0 ≤ k.tmod (m : Int) := Int.tmod_nonneg _ h0
  have h2 : k.tmod (m : Int) < (m : Int) := Int.tmod_lt_of_pos _ (by omega)
  exact ⟨(k.tmod (m : Int)).toNat, by omega, by omega⟩
theorem wrapu {m : Nat} (h : m ≤ 4294967296) : IntKind.u64.wrap ((m : Nat) : Int) = ((m : Nat) : Int) := by
  have e1 : IntKind.u64.bits = 64 := rfl
  have e2 : IntKind.u64.signed = false := rfl
  simp only [IntKind.wrap, e1, e2, Bool.false_and]
  exact Int.emod_eq_of_lt (by omega) (by omega)
theorem take_snoc_mem {L : List Peer} {i : Nat} {p : Peer} (h : L[i]? = some p) : L.take (i + 1) = L.take i ++ [p] := by
  obtain ⟨hi, rfl⟩ := List.getElem?_eq_some_iff.1 h
  exact List.take_succ_eq_append_getElem hi

theorem ty27 : Ty Try.prog 27 1 8 (.int .u64 (0)) false := ty_of (by kernel_rfl) (by kernel_rfl)
theorem ty41 : Ty Try.prog 41 1 24 (.slice (none) (0) (0)) false := ty_of (by kernel_rfl) (by kernel_rfl)
theorem en19 : Enters Try.prog 19 := enters_of Try.func19 rfl (by kernel_rfl)
theorem en20 : Enters Try.prog 20 := enters_of Try.func20 rfl (by kernel_rfl)
theorem en21 : Enters Try.prog 21 := enters_of Try.func21 rfl (by kernel_rfl)
theorem en22 : Enters Try.prog 22 := enters_of Try.func22 rfl (by kernel_rfl)
theorem en24 : Enters Try.prog 24 := enters_of Try.func24 rfl (by kernel_rfl)
theorem en25 : Enters Try.prog 25 := enters_of Try.func25 rfl (by kernel_rfl)
theorem en28 : Enters Try.prog 28 := enters_of Try.func28 rfl (by kernel_rfl)

set_option maxRecDepth 100000 in
set_option maxHeartbeats 4000000 in
theorem equal_peer (a : Option Addr) (xs : List Peer) (c : Nat) (d : Option Addr) (ys : List Peer) (e : Nat) (w : World) (hs : SlOf w a xs) (ht : SlOf w d ys) (hl : xs.length ≤ 4294967295) :
    Calls Try.prog 25 #[.slice (a) (xs.length) (c), .slice (d) (ys.length) (e)] w (Ret (fun v w' => v = .bool (decide (xs = ys)) ∧ Ext w w')) := by
  refine calls_run (n := 26) Try.func25 rfl rfl rfl ?_
  refine Run.seq ?_
  refine Run.region ?_
  refine RL.val (x_assignB rfl) ?_
  refine RL.nil ?_
  refine Run.seq ?_
  refine Run.seq ?_
  refine Run.region ?_
  refine RL.val (x_moveSl rfl) ?_
  refine RL.val (x_lenSl Try.underlying32 rfl) ?_
  refine RL.val (x_moveSl rfl) ?_
  refine RL.val (x_lenSl Try.underlying32 rfl) ?_
  refine RL.val (x_neI rfl rfl) ?_
  refine RL.nil ?_
  refine Run.cond rfl (fun hc10 => ?_) (fun hc10 => ?_)
  · try simp only [br] at hc10
    refine Run.seq ?_
    refine Run.region ?_
    refine RL.val (x_assignB rfl) ?_
    refine RL.nil ?_
    refine Run.ret1 (v := .bool (false)) Try.func25 rfl rfl ?_
    exact ⟨_, rfl, by rw [decide_eq_false (fun h => hc10 (by rw [h]))], (Keeps.refl _ w)⟩
  · try simp only [br] at hc10
    have hlen : xs.length = ys.length := by omega
    refine Run.skip ?_
    refine Run.seq ?_
    refine Run.seq ?_
    refine Run.region ?_
    refine RL.val (x_moveSl rfl) ?_
    refine RL.val (x_lenSl Try.underlying32 rfl) ?_
    refine RL.val (x_moveI rfl) ?_
    refine RL.nil ?_
    refine Run.block ?_
    refine Run.loop (ι := Nat) (fun i ρ' w' => Holds ρ' [(0, .slice (a) (xs.length) (c)), (1, .slice (d) (ys.length) (e)), (12, .int .i64 (((xs.length : Nat) : Int))), (13, .int .i64 (((i : Nat) : Int)))] ∧ Ext w w' ∧ (i ≤ xs.length) ∧ (SameB xs ys i)) (fun i => xs.length - i) 0 ?_ ?_
    · refine ⟨⟨rfl, rfl, rfl, rfl, trivial⟩, (Keeps.refl _ w), ?_, ?_⟩
      · omega
      · exact SameB.zero _ _
    rintro i ρ_3 w_1 ⟨hH_2, K0, hi, hno⟩ ih1
    obtain ⟨ρ₀, rfl⟩ := hH_2.ex
    clear hH_2
    refine Run.seq ?_
    refine Run.region ?_
    refine RL.val (x_ltI rfl rfl) ?_
    refine RL.nil ?_
    refine Run.seq ?_
    refine Run.cond rfl (fun hc14 => ?_) (fun hc14 => ?_)
    · try simp only [br] at hc14
      refine Run.skip ?_
      refine Run.seq ?_
      refine Run.block ?_
      refine Run.seq ?_
      refine Run.region ?_
      refine RL.val (x_moveI rfl) ?_
      refine RL.val (x_assignI rfl) ?_
      refine RL.nil ?_
      refine Run.seq ?_
      obtain ⟨b_6, o_7, x, hx, ha_8, hc_9⟩ := hs.el (i := i) (by first | omega | (simp only [List.length_set]; omega))
      have hc_9_lt := hc_9.lt
      replace hc_9 := hc_9.ext K0
      obtain ⟨b_12, o_13, y, hy, ha_14, hc_15⟩ := ht.el (i := i) (by first | omega | (simp only [List.length_set]; omega))
      have hc_15_lt := hc_15.lt
      replace hc_15 := hc_15.ext K0
      refine Run.draw' (m := 9) (by kernel_rfl) rfl ?_
      intro w_4 K_5
      replace hc_9 := hc_9.ext K_5
      replace hc_15 := hc_15.ext K_5
      replace K0 := K0.ext K_5
      refine RA.take (v := .slice (a) (xs.length) (c)) 0 rfl (by kernel_rfl) rfl (by rintro _ rfl; exact (x_moveSl rfl)) ?_
      refine RA.take (v := .int .i64 (((i : Nat) : Int))) 1 rfl (by kernel_rfl) rfl (by rintro _ rfl; exact (x_moveI rfl)) ?_
      refine RA.take (v := .pointer (some ⟨b_6, o_7 + i * 3, none⟩)) 2 rfl (by kernel_rfl) rfl (by rintro _ rfl; exact (x_idxN Try.underlying32 ty23 rfl rfl ha_8 (by first | omega | (simp only [List.length_set]; omega)))) ?_
      refine RA.take (v := .agg #[.int .i64 ((x).node), .int .i64 ((x).inc), .int .i64 ((x).status)]) 3 rfl (by kernel_rfl) rfl (by rintro _ rfl; exact (x_ldV (v := .agg #[.int .i64 ((x).node), .int .i64 ((x).inc), .int .i64 ((x).status)]) (y := x) ty23 rfl hc_9 rfl)) ?_
      refine RA.take (v := .slice (d) (ys.length) (e)) 4 rfl (by kernel_rfl) rfl (by rintro _ rfl; exact (x_moveSl rfl)) ?_
      refine RA.take (v := .int .i64 (((i : Nat) : Int))) 5 rfl (by kernel_rfl) rfl (by rintro _ rfl; exact (x_moveI rfl)) ?_
      refine RA.take (v := .pointer (some ⟨b_12, o_13 + i * 3, none⟩)) 6 rfl (by kernel_rfl) rfl (by rintro _ rfl; exact (x_idxN Try.underlying32 ty23 rfl rfl ha_14 (by first | omega | (simp only [List.length_set]; omega)))) ?_
      refine RA.take (v := .agg #[.int .i64 ((y).node), .int .i64 ((y).inc), .int .i64 ((y).status)]) 7 rfl (by kernel_rfl) rfl (by rintro _ rfl; exact (x_ldV (v := .agg #[.int .i64 ((y).node), .int .i64 ((y).inc), .int .i64 ((y).status)]) (y := y) ty23 rfl hc_15 rfl)) ?_
      refine RA.take (v := .bool (!decide (x = y))) 8 rfl (by kernel_rfl) rfl (by rintro _ rfl; exact (x_neA (by kernel_rfl) rfl rfl (eq_Peer x y))) ?_
      refine RA.done (by kernel_rfl) ?_
      refine Run.cond rfl (fun hc24 => ?_) (fun hc24 => ?_)
      · try simp only [br] at hc24
        refine Run.seq ?_
        refine Run.region ?_
        refine RL.val (x_assignB rfl) ?_
        refine RL.nil ?_
        refine Run.ret1 (v := .bool (false)) Try.func25 rfl rfl ?_
        exact ⟨_, rfl, by rw [decide_eq_false (ne_of_at hx hy hc24)], K0⟩
      · try simp only [br] at hc24
        refine Run.skip ?_
        refine Run.inBlock ?_
        refine Run.region ?_
        refine RL.val (litI (c := ((i + 1 : Nat) : Int)) (x_add rfl rfl (by omega) (by omega)) rfl) ?_
        refine RL.val (x_moveI rfl) ?_
        refine RL.nil ?_
        refine ih1 (i + 1) _ _ ?_ (by omega)
        refine ⟨⟨rfl, rfl, rfl, rfl, trivial⟩, K0, ?_, ?_⟩
        · omega
        · exact hno.step hx hy hc24
    · try simp only [br] at hc14
      refine Run.exit rfl ?_
      refine Run.seq ?_
      refine Run.region ?_
      refine RL.val (x_assignB rfl) ?_
      refine RL.nil ?_
      refine Run.ret1 (v := .bool (true)) Try.func25 rfl rfl ?_
      exact ⟨_, rfl, by rw [decide_eq_true (hno.all hlen (by omega))], K0⟩

set_option maxRecDepth 100000 in
set_option maxHeartbeats 4000000 in
theorem clone_peer (a : Option Addr) (xs : List Peer) (c : Nat) (w : World) (hs : SlOf w a xs) (hl : xs.length ≤ 4294967295) :
    Calls Try.prog 22 #[.slice (a) (xs.length) (c)] w (Ret (fun v w' => ∃ a' c', v = .slice a' xs.length c' ∧ OwnSl w' 23 a' c' xs ∧ (∀ b, own a' b → w.heap.size ≤ b) ∧ Ext w w')) := by
  refine calls_run (n := 8) Try.func22 rfl rfl rfl ?_
  refine Run.seq ?_
  refine Run.region ?_
  refine RL.val (x_assignSl rfl) ?_
  refine RL.nil ?_
  refine Run.seq ?_
  refine Run.seq ?_
  refine Run.region ?_
  refine RL.val (x_moveSl rfl) ?_
  refine RL.val (x_slNil Try.underlying32 rfl rfl) ?_
  refine RL.nil ?_
  refine Run.cond rfl (fun hc4 => ?_) (fun hc4 => ?_)
  · skip
    refine Run.seq ?_
    refine Run.region ?_
    refine RL.val (x_assignSl rfl) ?_
    refine RL.nil ?_
    refine Run.ret1 (v := .slice (none) (0) (0)) Try.func22 rfl rfl ?_
    have hx := hs.nil_of hc4; subst hx; exact ⟨_, rfl, none, 0, rfl, OwnSl.nil _ _, fun b h => absurd h (own_none b), (Keeps.refl _ w)⟩
  · skip
    refine Run.skip ?_
    refine Run.seq ?_
    refine Run.region ?_
    refine RL.st rfl <| St1.buildSlice ([] : List Peer) Try.underlying32 ty23 rfl rfl (by first | decide | (simp [Enc.size])) ?_
    intro b_1 w_2 hl_5 ho_4 K_3
    have pg_6 : ∀ q_, own (some ⟨b_1, 0, none⟩) q_ → w.heap.size ≤ q_ := fun q_ h => Nat.le_trans (Nat.le_refl _) ((ge_new hl_5) q_ h)
    clear hl_5
    have K0 := (K_3 : Ext w _)
    refine RL.val (x_moveSl rfl) ?_
    refine RL.st rfl <| St1.append (xs := ([] : List Peer)) (ys := xs) Try.underlying32 ty23 rfl rfl rfl ho_4 (hs.ext K0) (by first | omega | (simp only [lr]; omega)) (by decide) ?_
    intro a_7 c_8 w_9 ho_10 K_11 hm_12 hrm_13
    have pg_14 : ∀ q_, own a_7 q_ → w.heap.size ≤ q_ := hm_12.ge pg_6 K0.size
    replace K0 := K0.new K_11 pg_6
    clear hm_12
    clear hrm_13
    refine RL.val (x_assignSl rfl) ?_
    refine RL.nil ?_
    refine Run.ret1 (v := .slice (a_7) ((([] : List Peer) ++ xs).length) (c_8)) Try.func22 rfl rfl ?_
    exact ⟨_, rfl, a_7, c_8, by rw [List.nil_append], by simpa using ho_10, pg_14, K0⟩

set_option maxRecDepth 100000 in
set_option maxHeartbeats 4000000 in
theorem indexFunc_peer (a : Option Addr) (xs : List Peer) (c : Nat) (gf : FuncId) (caps : List Value) (q : Peer → Bool) (hen : Enters Try.prog gf) (w : World) (hs : SlOf w a xs) (hl : xs.length ≤ 4294967295) (hq : ∀ x ∈ xs, ∀ w', Ext w w' → Calls Try.prog gf (Enc.val x :: caps).toArray w' (Ret fun v w'' => v = .bool (q x) ∧ Ext w' w'')) :
    Calls Try.prog 28 #[.slice (a) (xs.length) (c), .func (.func gf) #[] caps.toArray] w (Ret (fun v w' => v = .int .i64 (findI q xs) ∧ Ext w w')) := by
  refine calls_run (n := 19) Try.func28 rfl rfl rfl ?_
  refine Run.seq ?_
  refine Run.region ?_
  refine RL.val (x_assignI rfl) ?_
  refine RL.nil ?_
  refine Run.seq ?_
  refine Run.seq ?_
  refine Run.region ?_
  refine RL.val (x_moveSl rfl) ?_
  refine RL.val (x_lenSl Try.underlying32 rfl) ?_
  refine RL.val (x_moveI rfl) ?_
  refine RL.nil ?_
  refine Run.block ?_
  refine Run.loop (ι := Nat) (fun i ρ' w' => Holds ρ' [(0, .slice (a) (xs.length) (c)), (1, .func (.func gf) #[] caps.toArray), (7, .int .i64 (((xs.length : Nat) : Int))), (8, .int .i64 (((i : Nat) : Int)))] ∧ Ext w w' ∧ (i ≤ xs.length) ∧ (NoB q xs i)) (fun i => xs.length - i) 0 ?_ ?_
  · refine ⟨⟨rfl, rfl, rfl, rfl, trivial⟩, (Keeps.refl _ w), ?_, ?_⟩
    · omega
    · exact NoB.zero _ _
  rintro i ρ_3 w_1 ⟨hH_2, K0, hi, hno⟩ ih1
  obtain ⟨ρ₀, rfl⟩ := hH_2.ex
  clear hH_2
  refine Run.seq ?_
  refine Run.region ?_
  refine RL.val (x_ltI rfl rfl) ?_
  refine RL.nil ?_
  refine Run.seq ?_
  refine Run.cond rfl (fun hc9 => ?_) (fun hc9 => ?_)
  · try simp only [br] at hc9
    refine Run.skip ?_
    refine Run.seq ?_
    refine Run.block ?_
    refine Run.seq ?_
    refine Run.region ?_
    refine RL.val (x_moveI rfl) ?_
    refine RL.val (x_assignI rfl) ?_
    refine RL.nil ?_
    refine Run.seq ?_
    refine Run.region ?_
    refine RL.val (x_moveF rfl) ?_
    refine RL.val (x_moveSl rfl) ?_
    refine RL.val (x_moveI rfl) ?_
    obtain ⟨b_4, o_5, e, hx, ha_6, hc_7⟩ := hs.el (i := i) (by first | omega | (simp only [List.length_set]; omega))
    have hc_7_lt := hc_7.lt
    replace hc_7 := hc_7.ext K0
    refine RL.val (x_idxN Try.underlying32 ty23 rfl rfl ha_6 (by first | omega | (simp only [List.length_set]; omega))) ?_
    refine RL.val (x_ldV (v := .agg #[.int .i64 ((e).node), .int .i64 ((e).inc), .int .i64 ((e).status)]) (y := e) ty23 rfl hc_7 rfl) ?_
    refine RL.st rfl <| St1.callV (first := []) (vals := .agg #[.int .i64 ((e).node), .int .i64 ((e).inc), .int .i64 ((e).status)] :: caps) hen rfl rfl (hq e (mem_of_at hx) _ K0) ?_
    rintro _ w_10 ⟨rfl, K_11⟩
    replace hc_7 := hc_7.ext K_11
    replace K0 := K0.ext K_11
    refine RL.nil ?_
    refine Run.cond rfl (fun hc16 => ?_) (fun hc16 => ?_)
    · skip
      refine Run.seq ?_
      refine Run.region ?_
      refine RL.val (x_moveI rfl) ?_
      refine RL.val (x_assignI rfl) ?_
      refine RL.nil ?_
      refine Run.ret1 (v := .int .i64 (((i : Nat) : Int))) Try.func28 rfl rfl ?_
      exact ⟨_, rfl, by rw [findI_at hx hc16 hno], K0⟩
    · skip
      refine Run.skip ?_
      refine Run.inBlock ?_
      refine Run.region ?_
      refine RL.val (litI (c := ((i + 1 : Nat) : Int)) (x_add rfl rfl (by omega) (by omega)) rfl) ?_
      refine RL.val (x_moveI rfl) ?_
      refine RL.nil ?_
      refine ih1 (i + 1) _ _ ?_ (by omega)
      refine ⟨⟨rfl, rfl, rfl, rfl, trivial⟩, K0, ?_, ?_⟩
      · omega
      · exact hno.step hx hc16
  · try simp only [br] at hc9
    refine Run.exit rfl ?_
    refine Run.seq ?_
    refine Run.region ?_
    refine RL.val (x_assignI rfl) ?_
    refine RL.nil ?_
    refine Run.ret1 (v := .int .i64 (-1)) Try.func28 rfl rfl ?_
    exact ⟨_, rfl, by rw [findI_no hno (by omega)], K0⟩

set_option maxRecDepth 100000 in
set_option maxHeartbeats 4000000 in
theorem deleteFunc_peer (a : Option Addr) (xs : List Peer) (c : Nat) (gf : FuncId) (caps : List Value) (q : Peer → Bool) (hen : Enters Try.prog gf) (w : World) (ho : OwnSl w 23 a c xs) (hl : xs.length ≤ 4294967295) (hq : ∀ x ∈ xs, ∀ w', Keeps (own a) w w' → Calls Try.prog gf (Enc.val x :: caps).toArray w' (Ret fun v w'' => v = .bool (q x) ∧ Ext w' w'')) :
    Calls Try.prog 21 #[.slice (a) (xs.length) (c), .func (.func gf) #[] caps.toArray] w (Ret (fun v w' => v = .slice a (xs.filter (fun x => !q x)).length c ∧ OwnSl w' 23 a c (xs.filter (fun x => !q x)) ∧ Keeps (own a) w w')) := by
  have hcap := ho.le_cap
  refine calls_run (n := 42) Try.func21 rfl rfl rfl ?_
  refine Run.seq ?_
  refine Run.region ?_
  refine RL.val (x_assignSl rfl) ?_
  refine RL.nil ?_
  refine Run.seq ?_
  refine Run.region ?_
  refine RL.val (x_moveSl rfl) ?_
  refine RL.val (x_moveF rfl) ?_
  refine RL.st rfl <| St1.call (vals := [.slice (a) (xs.length) (c), .func (.func gf) #[] caps.toArray]) en28 rfl (indexFunc_peer _ _ _ _ _ q hen _ ho.sl (by omega) (fun x hx w' K' => hq x hx w' (K'.to))) ?_
  rintro _ w_1 ⟨rfl, K_2⟩
  replace ho := ho.ext K_2
  have K0 := (K_2 : Ext w _).to (S := (own a))
  refine RL.val (x_assignI rfl) ?_
  refine RL.nil ?_
  refine Run.seq ?_
  refine Run.seq ?_
  refine Run.region ?_
  refine RL.val (x_moveI rfl) ?_
  refine RL.val (x_eqI rfl rfl) ?_
  refine RL.nil ?_
  refine Run.cond rfl (fun hc12 => ?_) (fun hc12 => ?_)
  · try simp only [br] at hc12
    refine Run.seq ?_
    refine Run.region ?_
    refine RL.val (x_moveSl rfl) ?_
    refine RL.val (x_assignSl rfl) ?_
    refine RL.nil ?_
    refine Run.ret1 (v := .slice (a) (xs.length) (c)) Try.func21 rfl rfl ?_
    have hno := findI_none (p := q) (xs := xs) rfl (by omega)
    rw [keepF_none hno]
    exact ⟨_, rfl, rfl, ho, K0⟩
  · try simp only [br] at hc12
    obtain ⟨k, hk, hkl, hkp, hkn⟩ := findI_some (p := q) (xs := xs) rfl (by have := findI_lo q xs; omega)
    rw [hk]
    refine Run.skip ?_
    refine Run.seq ?_
    refine Run.seq ?_
    refine Run.region ?_
    refine RL.val (x_moveI rfl) ?_
    refine RL.val (litI (c := ((k + 1 : Nat) : Int)) (x_add rfl rfl (by omega) (by omega)) rfl) ?_
    refine RL.val (x_assignI rfl) ?_
    refine RL.nil ?_
    refine Run.block ?_
    refine Run.loop (ι := Nat) (fun j ρ' w' => ∃ ys : List Peer, Holds ρ' [(0, .slice (a) (xs.length) (c)), (1, .func (.func gf) #[] caps.toArray), (5, .int .i64 ((((keepF q xs j).length : Nat) : Int))), (6, .int .i64 (((j : Nat) : Int)))] ∧ Keeps (own a) w w' ∧ (OwnSl w' 23 a c (ys)) ∧ (∀ q_, own a q_ → q_ < w.heap.size → (own a) q_) ∧ (j ≤ xs.length) ∧ (ys.take (keepF q xs j).length = (keepF q xs j)) ∧ (ys.drop j = xs.drop j) ∧ (ys.length = xs.length) ∧ ((keepF q xs j).length < j)) (fun j => xs.length - j) (k + 1) ?_ ?_
    · rw [keepF_first hkl hkp hkn, List.length_take, Nat.min_eq_left (Nat.le_of_lt hkl)]
      refine ⟨_, ⟨rfl, rfl, rfl, rfl, trivial⟩, K0, ho, (fun x h _ => h), ?_, ?_, ?_, ?_, ?_⟩
      · omega
      · rfl
      · rfl
      · rfl
      · omega
    clear ho
    clear K0
    rintro j ρ_7 w_3 ⟨ys, hH_4, K0, ho_5, pr_6, hj, h1, h2, h3, h4⟩ ih1
    obtain ⟨ρ₀, rfl⟩ := hH_4.ex
    clear hH_4
    refine Run.seq ?_
    refine Run.seq ?_
    have hkl2 := keepF_len q xs j
    have hcap2 : ys.length ≤ c := by omega
    refine Run.region ?_
    refine RL.val (x_moveI rfl) ?_
    refine RL.val (x_moveSl rfl) ?_
    refine RL.val (x_lenSl Try.underlying32 rfl) ?_
    refine RL.val (x_ltI rfl rfl) ?_
    refine RL.nil ?_
    refine Run.cond rfl (fun hc19 => ?_) (fun hc19 => ?_)
    · try simp only [br] at hc19
      refine Run.skip ?_
      refine Run.seq ?_
      refine Run.block ?_
      refine Run.seq ?_
      refine Run.region ?_
      refine RL.val (x_moveSl rfl) ?_
      refine RL.val (x_moveI rfl) ?_
      obtain ⟨b_8, o_9, x, hx, ha_10, hc_11⟩ := ho_5.sl.el (i := j) (by first | omega | (simp only [List.length_set]; omega))
      refine RL.val (x_idxN Try.underlying32 ty23 rfl rfl ha_10 (by first | omega | (simp only [List.length_set]; omega))) ?_
      refine RL.val (x_ldV (v := .agg #[.int .i64 ((x).node), .int .i64 ((x).inc), .int .i64 ((x).status)]) (y := x) ty23 rfl hc_11 rfl) ?_
      refine RL.st rfl <| St1.alloc ty23 ?_
      intro b_14 w_15 hl_18 hb_17 K_16
      replace hb_17 : Blk w_15 b_14 [.int .i64 (0), .int .i64 (0), .int .i64 (0)] 23 := hb_17
      have ne_19 : b_8 < b_14 := Nat.lt_of_lt_of_le hc_11.lt hl_18
      have pr_20 : ¬ own a b_14 := fun h => absurd (ho_5.own_lt _ h) (by omega)
      have : w.heap.size ≤ b_14 := Nat.le_trans K0.size hl_18
      clear hl_18
      replace ho_5 := ho_5.ext K_16
      replace hc_11 := hc_11.ext K_16
      replace K0 := K0.ext K_16
      refine RL.st rfl <| St1.store (v := .agg #[.int .i64 ((x).node), .int .i64 ((x).inc), .int .i64 ((x).status)]) ty23 rfl rfl rfl (by simp [Value.cells, Value.oneCell']) hb_17 (by simp) ?_
      intro w_21 hb_17_ K_22
      have hb_17' : Blk w_21 b_14 [.int .i64 ((x).node), .int .i64 ((x).inc), .int .i64 ((x).status)] 23 := hb_17_
      clear hb_17_
      replace ho_5 := ho_5.keepO K_22 (fun q_ hq_ eq_ => pr_20 (by simp only [one] at eq_; rw [← eq_]; exact hq_))
      replace hc_11 := hc_11.keep K_22 (fun e => pr_20 (by simp only [one] at e; rw [← e]; exact (own_sub _) _ ha_10))
      replace K0 := K0.trans K_22 (fun x hlt hx => absurd hlt (by simp only [one] at hx; omega))
      replace hb_17 := hb_17'
      clear hb_17'
      refine RL.nil ?_
      have hxx : xs[j]? = some x := by rw [← drop_get h2]; exact hx
      refine Run.seq ?_
      refine Run.region ?_
      refine RL.val (x_moveF rfl) ?_
      refine RL.val (x_lds (cs := #[.int .i64 ((x).node), .int .i64 ((x).inc), .int .i64 ((x).status)]) ty23 rfl rfl (hb_17.cl.drop 0 3)) ?_
      refine RL.st rfl <| St1.callV (first := []) (vals := .agg #[.int .i64 ((x).node), .int .i64 ((x).inc), .int .i64 ((x).status)] :: caps) hen rfl rfl (hq x (mem_of_at hxx) _ K0) ?_
      rintro _ w_23 ⟨rfl, K_24⟩
      replace ho_5 := ho_5.ext K_24
      replace hb_17 := hb_17.ext K_24
      replace K0 := K0.ext K_24
      refine RL.val (x_not rfl) ?_
      refine RL.nil ?_
      refine Run.cond rfl (fun hc29 => ?_) (fun hc29 => ?_)
      · try simp only [br] at hc29
        refine Run.seq ?_
        refine Run.region ?_
        refine RL.val (x_moveSl rfl) ?_
        refine RL.val (x_moveI rfl) ?_
        refine RL.val (x_lds (cs := #[.int .i64 ((x).node), .int .i64 ((x).inc), .int .i64 ((x).status)]) ty23 rfl rfl (hb_17.cl.drop 0 3)) ?_
        obtain ⟨b_25, o_26, x_29, hx_30, ha_27, hc_28⟩ := ho_5.sl.el (i := (keepF q xs j).length) (by omega)
        refine RL.val (x_idxN Try.underlying32 ty23 rfl rfl ha_27 (by omega)) ?_
        refine RL.st rfl <| St1.storeEl (v := .agg #[.int .i64 ((x).node), .int .i64 ((x).inc), .int .i64 ((x).status)]) (off := 0) (i := (keepF q xs j).length) x ty23 rfl rfl rfl (by simp [Value.cells, Value.oneCell']) ho_5 ha_27 hx_30 rfl (by decide) rfl ?_
        intro w_31 ho_33 K_32
        clear hc_28
        replace hb_17 := hb_17.keep K_32 pr_20
        replace K0 := K0.trans K_32 (fun x hlt hx => pr_6 x hx hlt)
        replace ho_5 := ho_33
        clear ho_33
        refine RL.nil ?_
        refine Run.region ?_
        refine RL.val (x_moveI rfl) ?_
        refine RL.val (litI (c := ((((keepF q xs j).length) + 1 : Nat) : Int)) (x_add rfl rfl (by omega) (by omega)) rfl) ?_
        refine RL.val (x_assignI rfl) ?_
        refine RL.nil ?_
        refine Run.inBlock ?_
        refine Run.region ?_
        refine RL.val (x_moveI rfl) ?_
        refine RL.val (litI (c := ((j + 1 : Nat) : Int)) (x_add rfl rfl (by omega) (by omega)) rfl) ?_
        refine RL.val (x_assignI rfl) ?_
        refine RL.nil ?_
        have e := keepF_succ (q := q) hxx
        rw [if_neg (by simp [hc29])] at e
        have e2 : (keepF q xs (j + 1)).length = (keepF q xs j).length + 1 := by rw [e]; simp
        refine ih1 (j + 1) _ _ ?_ (by omega)
        rw [e2, e]
        refine ⟨_, ⟨rfl, rfl, rfl, rfl, trivial⟩, K0, ho_5, pr_6, ?_, ?_, ?_, ?_, ?_⟩
        · omega
        · rw [set_take_succ (by omega), h1]
        · rw [set_drop_gt (by omega)]; exact drop_succ_eq h2
        · rw [List.length_set]; exact h3
        · omega
      · try simp only [br] at hc29
        refine Run.skip ?_
        refine Run.inBlock ?_
        refine Run.region ?_
        refine RL.val (x_moveI rfl) ?_
        refine RL.val (litI (c := ((j + 1 : Nat) : Int)) (x_add rfl rfl (by omega) (by omega)) rfl) ?_
        refine RL.val (x_assignI rfl) ?_
        refine RL.nil ?_
        have e := keepF_succ (q := q) hxx
        rw [if_pos hc29] at e
        refine ih1 (j + 1) _ _ ?_ (by omega)
        rw [e]
        refine ⟨_, ⟨rfl, rfl, rfl, rfl, trivial⟩, K0, ho_5, pr_6, ?_, ?_, ?_, ?_, ?_⟩
        · omega
        · exact h1
        · exact drop_succ_eq h2
        · exact h3
        · omega
    · try simp only [br] at hc19
      refine Run.exit rfl ?_
      refine Run.seq ?_
      refine Run.region ?_
      refine RL.val (x_moveSl rfl) ?_
      refine RL.val (x_moveI rfl) ?_
      refine RL.val (x_sliceFrom (xs := ys) Try.underlying32 ty23 (slLen rfl h3) rfl (by omega)) ?_
      have ht_37 := ho_5.take ((keepF q xs j).length)
      have ht_37_l : (ys.take ((keepF q xs j).length)).length = (keepF q xs j).length := by rw [List.length_take]; omega
      refine RL.st rfl <| St1.clearTail (xs := ys.take ((keepF q xs j).length)) Try.underlying32 ty23 rfl (by simp [Value.cells, Value.oneCell']) (by rw [ht_37_l]; exact rfl) ht_37 (by rw [ht_37_l]; simp only [List.length_drop]; omega) ?_
      intro w_34 ho_36 K_35
      replace K0 := K0.trans K_35 (fun x hlt hx => pr_6 x hx hlt)
      replace ho_5 := ho_36
      clear ho_36 ht_37
      refine RL.nil ?_
      refine Run.seq ?_
      refine Run.region ?_
      refine RL.val (x_moveSl rfl) ?_
      refine RL.val (x_moveI rfl) ?_
      refine RL.val (litSl (m' := (ys.take ((keepF q xs j).length)).length) (x_sliceTo Try.underlying32 ty23 rfl rfl (by omega)) (by rw [List.length_take]; omega)) ?_
      refine RL.val (x_assignSl rfl) ?_
      refine RL.nil ?_
      refine Run.ret1 (v := .slice (a) ((ys.take ((keepF q xs j).length)).length) (c)) Try.func21 rfl rfl ?_
      have hjl : j = xs.length := by omega
      subst hjl
      rw [h1, keepF_all] at ho_5 ⊢
      exact ⟨_, rfl, rfl, ho_5, K0⟩

set_option maxRecDepth 100000 in
set_option maxHeartbeats 4000000 in
theorem when_ (i : Nat) (bn : Nat) (an : Option Addr) (nows : List Int) (cn : Nat) (w : World) (hbn : Blk w bn [.slice an nows.length cn] 41) (hs : SlOf w an nows) (hl : nows.length ≤ 4294967295) :
    Calls Try.prog 19 #[.int .i64 (((i : Nat) : Int)), .pointer (some ⟨bn, 0, none⟩)] w (Ret (fun v w' => v = .int .i64 (whenV nows i) ∧ Ext w w')) := by
  refine calls_run (n := 12) Try.func19 rfl rfl rfl ?_
  refine Run.seq ?_
  refine Run.region ?_
  refine RL.val (x_assignI rfl) ?_
  refine RL.nil ?_
  refine Run.seq ?_
  refine Run.seq ?_
  refine Run.region ?_
  refine RL.val (x_moveI rfl) ?_
  refine RL.val (x_ld (v := .slice (an) (nows.length) (cn)) ty41 rfl rfl (hbn.cl.field (i := 0) rfl)) ?_
  refine RL.val (x_lenSl Try.underlying41 rfl) ?_
  refine RL.val (x_ltI rfl rfl) ?_
  refine RL.nil ?_
  refine Run.cond rfl (fun hc7 => ?_) (fun hc7 => ?_)
  · try simp only [br] at hc7
    refine Run.seq ?_
    refine Run.region ?_
    refine RL.val (x_ld (v := .slice (an) (nows.length) (cn)) ty41 rfl rfl (hbn.cl.field (i := 0) rfl)) ?_
    refine RL.val (x_moveI rfl) ?_
    obtain ⟨b_1, o_2, x, hx, ha_3, hc_4⟩ := hs.el (i := i) (by first | omega | (simp only [List.length_set]; omega))
    have hc_4_lt := hc_4.lt
    refine RL.val (x_idxN Try.underlying41 ty3 rfl rfl ha_3 (by first | omega | (simp only [List.length_set]; omega))) ?_
    refine RL.val (x_ldV (v := .int .i64 (x)) (y := x) ty3 rfl hc_4 rfl) ?_
    refine RL.val (x_assignI rfl) ?_
    refine RL.nil ?_
    refine Run.ret1 (v := .int .i64 (x)) Try.func19 rfl rfl ?_
    exact ⟨_, rfl, by unfold whenV; rw [hx]; rfl, (Keeps.refl _ w)⟩
  · try simp only [br] at hc7
    refine Run.skip ?_
    refine Run.seq ?_
    refine Run.region ?_
    refine RL.val (x_assignI rfl) ?_
    refine RL.nil ?_
    refine Run.ret1 (v := .int .i64 (0)) Try.func19 rfl rfl ?_
    exact ⟨_, rfl, by unfold whenV; rw [List.getElem?_eq_none (by omega)]; rfl, (Keeps.refl _ w)⟩

set_option maxRecDepth 100000 in
set_option maxHeartbeats 4000000 in
theorem lt2 (p : Peer) (w : World) :
    Calls Try.prog 24 #[.agg #[.int .i64 ((p).node), .int .i64 ((p).inc), .int .i64 ((p).status)]] w (Ret (fun v w' => v = .bool (decide (p.node < 2)) ∧ Ext w w')) := by
  refine calls_run (n := 6) Try.func24 rfl rfl rfl ?_
  refine Run.seq ?_
  refine Run.region ?_
  refine RL.st rfl <| St1.box (v := .agg #[.int .i64 ((p).node), .int .i64 ((p).inc), .int .i64 ((p).status)]) rfl ?_
  intro b_1 w_2 hl_5 hb_4 K_3
  replace hb_4 : Blk w_2 b_1 [.int .i64 ((p).node), .int .i64 ((p).inc), .int .i64 ((p).status)] 23 := hb_4
  have : w.heap.size ≤ b_1 := hl_5
  clear hl_5
  have K0 := (K_3 : Ext w _)
  refine RL.val (x_assignB rfl) ?_
  refine RL.nil ?_
  refine Run.seq ?_
  refine Run.region ?_
  refine RL.val (x_fld (o' := 0) Try.underlying23 rfl ty3 rfl rfl rfl) ?_
  refine RL.val (x_ld (v := .int .i64 ((p).node)) ty3 rfl rfl (hb_4.cl.field (i := 0) rfl)) ?_
  refine RL.val (x_ltI rfl rfl) ?_
  refine RL.val (x_assignB rfl) ?_
  refine RL.nil ?_
  refine Run.ret1 (v := .bool (decide (((p).node) < 2))) Try.func24 rfl rfl ?_
  exact ⟨_, rfl, rfl, K0⟩

set_option maxRecDepth 100000 in
set_option maxHeartbeats 4000000 in
theorem rest_ (b : Nat) (al : Option Addr) (cl : Nat) (T : Tab) (w : World) (hb : Blk w b (tabCells T al cl) 71) (hl8 : T.l.length = 8) :
    Calls Try.prog 20 #[.pointer (some ⟨b, 0, none⟩)] w (Ret (fun v w' => ∃ a' c', v = .slice a' ((peersL T.l).filter (fun x => !decide (x.node < 2))).length c' ∧ OwnSl w' 23 a' c' ((peersL T.l).filter (fun x => !decide (x.node < 2))) ∧ (∀ b, own a' b → w.heap.size ≤ b) ∧ Ext w w')) := by
  replace hb : Blk w b (([.bool (true), .int .i64 (T.self), .int .i64 (T.now)] : List Value) ++ flat T.l ++ ([.slice (al) (T.pings.length) (cl), .int .i64 (T.req), .bool (T.begun), .int .i64 (T.last), .int .i64 (T.target)] : List Value)) 71 := hb
  have hpL := peersL_len T.l
  refine calls_run (n := 7) Try.func20 rfl rfl rfl ?_
  refine Run.seq ?_
  refine Run.region ?_
  refine RL.val (x_assignSl rfl) ?_
  refine RL.nil ?_
  refine Run.seq ?_
  refine Run.region ?_
  refine RL.val (x_moveP rfl) ?_
  refine RL.st rfl <| St1.call (vals := [.pointer (some ⟨b, 0, none⟩)]) en23 rfl (peers_ _ _ _ T _ hb hl8) ?_
  rintro _ w_3 ⟨a_1, c_2, rfl, ho_4, hg_5, K_6⟩
  have pr_7 : ¬ own a_1 b := notNew hg_5 hb.lt
  have pg_8 : ∀ q_, own a_1 q_ → w.heap.size ≤ q_ := fun q_ h => Nat.le_trans (Nat.le_refl _) (hg_5 q_ h)
  clear hg_5
  replace hb := hb.ext K_6
  have K0 := (K_6 : Ext w _)
  refine RL.st rfl <| St1.call (vals := [.slice (a_1) ((peersL T.l).length) (c_2)]) en22 rfl (clone_peer _ _ _ _ ho_4.sl (by omega)) ?_
  rintro _ w_11 ⟨a_9, c_10, rfl, ho_12, hg_13, K_14⟩
  have pr_15 : ¬ own a_9 b := notNew hg_13 hb.lt
  have pr_16 : ∀ q_, own a_9 q_ → ¬ own a_1 q_ := apartNew hg_13 ho_4.own_lt
  have pg_17 : ∀ q_, own a_9 q_ → w.heap.size ≤ q_ := fun q_ h => Nat.le_trans K0.size (hg_13 q_ h)
  clear hg_13
  replace hb := hb.ext K_14
  replace ho_4 := ho_4.ext K_14
  replace K0 := K0.ext K_14
  refine RL.st rfl <| St1.call (vals := [.slice (a_9) ((peersL T.l).length) (c_10), .func (.func 24) #[] #[]]) en21 rfl (deleteFunc_peer _ _ _ 24 _ (fun x => decide (x.node < 2)) en24 _ ho_12 (by omega) (fun x _ w' K' => lt2 x w')) ?_
  rintro _ w_18 ⟨rfl, ho_19, K_20⟩
  replace hb := hb.keep K_20 pr_15
  replace ho_4 := ho_4.keepO K_20 (fun q_ h1 h2 => pr_16 q_ h2 h1)
  replace K0 := K0.new K_20 pg_17
  replace ho_12 := ho_19
  clear ho_19
  refine RL.val (x_assignSl rfl) ?_
  refine RL.nil ?_
  refine Run.ret1 (v := .slice (a_9) (((peersL T.l).filter (fun x => !(fun x => decide (x.node < 2)) x)).length) (c_10)) Try.func20 rfl rfl ?_
  exact ⟨_, rfl, a_9, c_10, rfl, ho_12, pg_17, K0⟩

set_option maxRecDepth 100000 in
set_option maxHeartbeats 4000000 in
theorem law_alike (a0 : Option Addr) (l : List Peer) (c0 : Nat) (a1 : Option Addr) (order : List U64) (c1 : Nat) (a2 : Option Addr) (nows : List Int) (c2 : Nat) (w : World) (h0 : SlOf w a0 l) (h1 : SlOf w a1 order) (h2 : SlOf w a2 nows) (hl0 : l.length ≤ 1048576) (hl1 : order.length ≤ 1048576) (hl2 : nows.length ≤ 1048576) (hor : ∀ k ∈ order, 0 ≤ k.v) (hnw : ∀ z ∈ nows, z ≤ 9223372036854775807) :
    Calls Try.prog 6 #[.slice (a0) (l.length) (c0), .slice (a1) (order.length) (c1), .slice (a2) (nows.length) (c2)] w (Ret (fun v w' => v = .bool true ∧ Ext w w')) := by
  refine calls_run (n := 126) Try.func6 rfl rfl rfl ?_
  refine Run.seq ?_
  refine Run.region ?_
  refine RL.st rfl <| St1.box (v := .slice (a2) (nows.length) (c2)) rfl ?_
  intro b_1 w_2 hl_5 hb_4 K_3
  replace hb_4 : Blk w_2 b_1 [.slice (a2) (nows.length) (c2)] 41 := hb_4
  have : w.heap.size ≤ b_1 := hl_5
  clear hl_5
  have K0 := (K_3 : Ext w _)
  refine RL.val (x_assignB rfl) ?_
  refine RL.nil ?_
  refine Run.seq ?_
  refine Run.region ?_
  refine RL.st rfl <| St1.call (vals := [.int .i64 (0)]) en14 rfl (new_ 0 _) ?_
  rintro _ w_7 (⟨hbad_11, _, _⟩ | ⟨b_6, _, rfl, hT_8, hg_9, K_10⟩)
  · exact absurd hbad_11 (by omega)
  have pr_12 : ¬ tabS b_6 none b_1 := notNew (tabS_new hg_9) hb_4.lt
  have pg_13 : ∀ q_, tabS b_6 none q_ → w.heap.size ≤ q_ := fun q_ h => Nat.le_trans K0.size ((tabS_new hg_9) q_ h)
  clear hg_9
  replace hb_4 := hb_4.ext K_10
  replace K0 := K0.ext K_10
  refine RL.val (x_moveT rfl) ?_
  refine RL.val (x_extract rfl rfl) ?_
  refine RL.val (x_extract rfl rfl) ?_
  refine RL.val (x_assignP rfl) ?_
  refine RL.val (x_assignI rfl) ?_
  refine RL.nil ?_
  refine Run.seq ?_
  refine Run.region ?_
  refine RL.st rfl <| St1.call (vals := [.int .i64 (1)]) en14 rfl (new_ 1 _) ?_
  rintro _ w_15 (⟨hbad_19, _, _⟩ | ⟨b_14, _, rfl, hT_16, hg_17, K_18⟩)
  · exact absurd hbad_19 (by omega)
  have pr_20 : ¬ tabS b_14 none b_1 := notNew (tabS_new hg_17) hb_4.lt
  have pr_21 : ∀ q_, tabS b_14 none q_ → ¬ tabS b_6 none q_ := apartNew (tabS_new hg_17) hT_8.own_lt
  have pg_22 : ∀ q_, tabS b_14 none q_ → w.heap.size ≤ q_ := fun q_ h => Nat.le_trans K0.size ((tabS_new hg_17) q_ h)
  clear hg_17
  replace hb_4 := hb_4.ext K_18
  replace hT_8 := hT_8.ext K_18
  replace K0 := K0.ext K_18
  refine RL.val (x_moveT rfl) ?_
  refine RL.val (x_extract rfl rfl) ?_
  refine RL.val (x_extract rfl rfl) ?_
  refine RL.val (x_assignP rfl) ?_
  refine RL.val (x_assignI rfl) ?_
  refine RL.nil ?_
  refine Run.seq ?_
  refine Run.seq ?_
  refine Run.region ?_
  refine RL.val (x_moveI rfl) ?_
  refine RL.val (litF (x_neI rfl rfl) (by decide)) ?_
  refine RL.val (x_moveB rfl) ?_
  refine RL.gst (wantedF1 rfl rfl rfl rfl) <| St1.val (x_moveI rfl) ?_
  refine RL.gst (wantedF1 rfl rfl rfl rfl) <| St1.val (litF (x_neI rfl rfl) (by decide)) ?_
  refine RL.val (x_orF rfl rfl rfl) ?_
  refine RL.val (x_moveB rfl) ?_
  refine RL.gst (wantedF1 rfl rfl rfl rfl) <| St1.val (x_moveP rfl) ?_
  refine RL.gst (wantedF1 rfl rfl rfl rfl) <| St1.val (litF (x_ptrNil Try.underlying28 rfl rfl) rfl) ?_
  refine RL.val (x_orF rfl rfl rfl) ?_
  refine RL.val (x_moveB rfl) ?_
  refine RL.gst (wantedF1 rfl rfl rfl rfl) <| St1.val (x_moveP rfl) ?_
  refine RL.gst (wantedF1 rfl rfl rfl rfl) <| St1.val (litF (x_ptrNil Try.underlying28 rfl rfl) rfl) ?_
  refine RL.val (x_orF rfl rfl rfl) ?_
  refine RL.val (x_moveB rfl) ?_
  refine RL.gst (wantedF1 rfl rfl rfl rfl) <| St1.call (vals := []) en13 rfl (awake_ _) ?_
  rintro _ w_23 ⟨rfl, K_24⟩
  replace hb_4 := hb_4.ext K_24
  replace hT_8 := hT_8.ext K_24
  replace hT_16 := hT_16.ext K_24
  replace K0 := K0.ext K_24
  refine RL.gst (wantedF1 rfl rfl rfl rfl) <| St1.val (x_not rfl) ?_
  refine RL.val (x_orF rfl rfl rfl) ?_
  refine RL.nil ?_
  refine Run.condF rfl ?_
  refine Run.skip ?_
  refine Run.seq ?_
  refine Run.region ?_
  refine RL.val (x_assignSl rfl) ?_
  refine RL.nil ?_
  refine Run.seq ?_
  refine Run.seq ?_
  refine Run.region ?_
  refine RL.val (x_moveSl rfl) ?_
  refine RL.val (x_lenSl Try.underlying32 rfl) ?_
  refine RL.val (x_moveI rfl) ?_
  refine RL.nil ?_
  refine Run.block ?_
  refine Run.loop (ι := Nat) (fun i ρ' w' => ∃ L : List Peer, ∃ aL : Option Addr, ∃ cL : Nat, Holds ρ' [(1, .slice (a1) (order.length) (c1)), (5, .pointer (some ⟨b_1, 0, none⟩)), (7, .pointer (some ⟨b_6, 0, none⟩)), (9, .pointer (some ⟨b_14, 0, none⟩)), (11, .slice (aL) ((L).length) (cL)), (47, .slice (a0) (l.length) (c0)), (48, .int .i64 (((l.length : Nat) : Int))), (49, .int .i64 (((i : Nat) : Int)))] ∧ Ext w w' ∧ (Blk w' b_1 [.slice (a2) (nows.length) (c2)] 41) ∧ (TabAt w' b_6 none 0 (newT 0)) ∧ (TabAt w' b_14 none 0 (newT 1)) ∧ (OwnSl w' 23 aL cL (L)) ∧ (¬ own aL b_1) ∧ (∀ q_, own aL q_ → ¬ tabS b_6 none q_) ∧ (∀ q_, own aL q_ → ¬ tabS b_14 none q_) ∧ (∀ q_, own aL q_ → w.heap.size ≤ q_) ∧ (i ≤ l.length) ∧ (L.length ≤ i) ∧ (∀ p ∈ L, 1 < p.node)) (fun i => l.length - i) 0 ?_ ?_
  · have ho_32 := OwnSl.nil (α := Peer) w_23 23
    refine ⟨_, _, _, ⟨rfl, rfl, rfl, rfl, rfl, rfl, rfl, rfl, trivial⟩, K0, hb_4, hT_8, hT_16, ho_32, (own_none b_1), (fun q_ h1 _ => own_none q_ h1), (fun q_ h1 _ => own_none q_ h1), (fun q_ h1 => absurd h1 (own_none q_)), ?_, ?_, ?_⟩
    · omega
    · simp
    · simp
  clear hb_4 hT_8 hT_16
  clear K0
  rintro i ρ_33 w_25 ⟨L, aL, cL, hH_26, K0, hb_4, hT_8, hT_16, ho_27, pr_28, pr_29, pr_30, pr_31, hi, hLl, hall⟩ ih1
  obtain ⟨ρ₀, rfl⟩ := hH_26.ex
  clear hH_26
  refine Run.seq ?_
  refine Run.region ?_
  refine RL.val (x_ltI rfl rfl) ?_
  refine RL.nil ?_
  refine Run.seq ?_
  refine Run.cond rfl (fun hc50 => ?_) (fun hc50 => ?_)
  · try simp only [br] at hc50
    refine Run.skip ?_
    refine Run.seq ?_
    refine Run.block ?_
    refine Run.seq ?_
    refine Run.region ?_
    obtain ⟨b_34, o_35, p, hp, ha_36, hc_37⟩ := h0.el (i := i) (by first | omega | (simp only [List.length_set]; omega))
    have hc_37_lt := hc_37.lt
    replace hc_37 := hc_37.ext K0
    refine RL.val (x_idxN Try.underlying32 ty23 rfl rfl ha_36 (by first | omega | (simp only [List.length_set]; omega))) ?_
    refine RL.val (x_ldV (v := .agg #[.int .i64 ((p).node), .int .i64 ((p).inc), .int .i64 ((p).status)]) (y := p) ty23 rfl hc_37 rfl) ?_
    refine RL.st rfl <| St1.alloc ty23 ?_
    intro b_40 w_41 hl_44 hb_43 K_42
    replace hb_43 : Blk w_41 b_40 [.int .i64 (0), .int .i64 (0), .int .i64 (0)] 23 := hb_43
    have ne_45 : b_1 < b_40 := Nat.lt_of_lt_of_le hb_4.lt hl_44
    have ne_46 : b_34 < b_40 := Nat.lt_of_lt_of_le hc_37.lt hl_44
    have pr_47 : ¬ tabS b_6 none b_40 := fun h => absurd (hT_8.own_lt _ h) (by omega)
    have pr_48 : ¬ tabS b_14 none b_40 := fun h => absurd (hT_16.own_lt _ h) (by omega)
    have pr_49 : ¬ own aL b_40 := fun h => absurd (ho_27.own_lt _ h) (by omega)
    have : w.heap.size ≤ b_40 := Nat.le_trans K0.size hl_44
    clear hl_44
    replace hb_4 := hb_4.ext K_42
    replace hT_8 := hT_8.ext K_42
    replace hT_16 := hT_16.ext K_42
    replace ho_27 := ho_27.ext K_42
    replace hc_37 := hc_37.ext K_42
    replace K0 := K0.ext K_42
    refine RL.st rfl <| St1.store (v := .agg #[.int .i64 ((p).node), .int .i64 ((p).inc), .int .i64 ((p).status)]) ty23 rfl rfl rfl (by simp [Value.cells, Value.oneCell']) hb_43 (by simp) ?_
    intro w_50 hb_43_ K_51
    have hb_43' : Blk w_50 b_40 [.int .i64 ((p).node), .int .i64 ((p).inc), .int .i64 ((p).status)] 23 := hb_43_
    clear hb_43_
    replace hb_4 := hb_4.keep K_51 (by simp only [one]; omega)
    replace hT_8 := hT_8.keepO K_51 (fun q_ hq_ eq_ => pr_47 (by simp only [one] at eq_; rw [← eq_]; exact hq_))
    replace hT_16 := hT_16.keepO K_51 (fun q_ hq_ eq_ => pr_48 (by simp only [one] at eq_; rw [← eq_]; exact hq_))
    replace ho_27 := ho_27.keepO K_51 (fun q_ hq_ eq_ => pr_49 (by simp only [one] at eq_; rw [← eq_]; exact hq_))
    replace hc_37 := hc_37.keep K_51 (by simp only [one]; omega)
    replace K0 := K0.new K_51 (fun x hx => by simp only [one] at hx; omega)
    replace hb_43 := hb_43'
    clear hb_43'
    refine RL.nil ?_
    refine Run.seq ?_
    refine Run.region ?_
    refine RL.val (x_fld (o' := 0) Try.underlying23 rfl ty3 rfl rfl rfl) ?_
    refine RL.val (x_ld (v := .int .i64 ((p).node)) ty3 rfl rfl (hb_43.cl.field (i := 0) rfl)) ?_
    refine RL.val (x_gtI rfl rfl) ?_
    refine RL.nil ?_
    refine Run.cond rfl (fun hc55 => ?_) (fun hc55 => ?_)
    · try simp only [br] at hc55
      refine Run.region ?_
      refine RL.val (x_moveSl rfl) ?_
      refine RL.val (x_lds (cs := #[.int .i64 ((p).node), .int .i64 ((p).inc), .int .i64 ((p).status)]) ty23 rfl rfl (hb_43.cl.drop 0 3)) ?_
      refine RL.st rfl <| St1.buildSlice ([p] : List Peer) Try.underlying32 ty23 rfl rfl (by first | decide | (simp [Enc.size])) ?_
      intro b_52 w_53 hl_56 ho_55 K_54
      have pr_57 : ¬ own (some ⟨b_52, 0, none⟩) b_1 := notNew (ge_new hl_56) hb_4.lt
      have pr_58 : ∀ q_, own (some ⟨b_52, 0, none⟩) q_ → ¬ tabS b_6 none q_ := apartNew (ge_new hl_56) hT_8.own_lt
      have pr_59 : ∀ q_, own (some ⟨b_52, 0, none⟩) q_ → ¬ tabS b_14 none q_ := apartNew (ge_new hl_56) hT_16.own_lt
      have pr_60 : ∀ q_, own (some ⟨b_52, 0, none⟩) q_ → ¬ own aL q_ := apartNew (ge_new hl_56) ho_27.own_lt
      have pr_61 : ¬ own (some ⟨b_52, 0, none⟩) b_40 := notNew (ge_new hl_56) hb_43.lt
      have pg_62 : ∀ q_, own (some ⟨b_52, 0, none⟩) q_ → w.heap.size ≤ q_ := fun q_ h => Nat.le_trans K0.size ((ge_new hl_56) q_ h)
      clear hl_56
      replace hb_4 := hb_4.ext K_54
      replace hT_8 := hT_8.ext K_54
      replace hT_16 := hT_16.ext K_54
      replace ho_27 := ho_27.ext K_54
      replace hb_43 := hb_43.ext K_54
      replace K0 := K0.ext K_54
      refine RL.st rfl <| St1.append (xs := L) (ys := ([p] : List Peer)) Try.underlying32 ty23 rfl rfl rfl ho_27 ho_55.sl (by first | omega | (simp only [lr]; omega)) (by decide) ?_
      intro a_63 c_64 w_65 ho_66 K_67 hm_68 hrm_69
      have pr_70 : ¬ own a_63 b_1 := hm_68.not pr_28 hb_4.lt
      have pr_71 : ∀ q_, own a_63 q_ → ¬ tabS b_6 none q_ := hm_68.apart pr_29 hT_8.own_lt
      have pr_72 : ∀ q_, own a_63 q_ → ¬ tabS b_14 none q_ := hm_68.apart pr_30 hT_16.own_lt
      have pr_73 : ¬ own a_63 b_40 := hm_68.not pr_49 hb_43.lt
      have pr_74 : ∀ q_, own a_63 q_ → ¬ own (some ⟨b_52, 0, none⟩) q_ := hm_68.apart (fun q_ h1 h2 => pr_60 q_ h2 h1) ho_55.own_lt
      have pg_75 : ∀ q_, own a_63 q_ → w.heap.size ≤ q_ := hm_68.ge pr_31 K0.size
      replace hb_4 := hb_4.keep K_67 pr_28
      replace hT_8 := hT_8.keepO K_67 (fun q_ h1 h2 => pr_29 q_ h2 h1)
      replace hT_16 := hT_16.keepO K_67 (fun q_ h1 h2 => pr_30 q_ h2 h1)
      replace hb_43 := hb_43.keep K_67 pr_49
      replace ho_55 := ho_55.keepO K_67 pr_60
      replace K0 := K0.new K_67 pr_31
      clear hm_68
      clear hrm_69
      refine RL.val (x_assignSl rfl) ?_
      refine RL.nil ?_
      refine Run.inBlock ?_
      refine Run.region ?_
      refine RL.val (litI (c := ((i + 1 : Nat) : Int)) (x_add rfl rfl (by omega) (by omega)) rfl) ?_
      refine RL.val (x_moveI rfl) ?_
      refine RL.nil ?_
      refine ih1 (i + 1) _ _ ?_ (by omega)
      refine ⟨_, _, _, ⟨rfl, rfl, rfl, rfl, rfl, rfl, rfl, rfl, trivial⟩, K0, hb_4, hT_8, hT_16, ho_66, pr_70, pr_71, pr_72, pg_75, ?_, ?_, ?_⟩
      · omega
      · simp only [List.length_append, List.length_singleton]; omega
      · intro y hy
        rcases List.mem_append.1 hy with hy | hy
        · exact hall y hy
        · simp only [List.mem_singleton] at hy; subst hy; exact hc55
    · try simp only [br] at hc55
      refine Run.skip ?_
      refine Run.inBlock ?_
      refine Run.region ?_
      refine RL.val (litI (c := ((i + 1 : Nat) : Int)) (x_add rfl rfl (by omega) (by omega)) rfl) ?_
      refine RL.val (x_moveI rfl) ?_
      refine RL.nil ?_
      refine ih1 (i + 1) _ _ ?_ (by omega)
      refine ⟨_, _, _, ⟨rfl, rfl, rfl, rfl, rfl, rfl, rfl, rfl, trivial⟩, K0, hb_4, hT_8, hT_16, ho_27, pr_28, pr_29, pr_30, pr_31, ?_, ?_, ?_⟩
      · omega
      · omega
      · exact hall
  · try simp only [br] at hc50
    refine Run.exit rfl ?_
    refine Run.seq ?_
    refine Run.region ?_
    refine RL.val (x_mkFunc (a := []) (c := [.pointer (some ⟨b_1, 0, none⟩)]) rfl rfl) ?_
    refine RL.val (x_assignF rfl) ?_
    refine RL.nil ?_
    refine Run.seq ?_
    refine Run.seq ?_
    refine Run.region ?_
    refine RL.val (x_moveSl rfl) ?_
    refine RL.val (x_lenSl Try.underlying32 rfl) ?_
    refine RL.val (x_moveI rfl) ?_
    refine RL.nil ?_
    refine Run.block ?_
    refine Run.loop (ι := Nat) (fun i ρ' w' => ∃ TA : Tab, ∃ ala : Option Addr, ∃ cla : Nat, Holds ρ' [(1, .slice (a1) (order.length) (c1)), (7, .pointer (some ⟨b_6, 0, none⟩)), (9, .pointer (some ⟨b_14, 0, none⟩)), (11, .slice (aL) ((L).length) (cL)), (14, .func (.func 19) #[] #[.pointer (some ⟨b_1, 0, none⟩)]), (62, .slice (aL) ((L).length) (cL)), (63, .int .i64 ((((L).length : Nat) : Int))), (64, .int .i64 (((i : Nat) : Int)))] ∧ Ext w w' ∧ (Blk w' b_1 [.slice (a2) (nows.length) (c2)] 41) ∧ (TabAt w' b_14 none 0 (newT 1)) ∧ (OwnSl w' 23 (aL) (cL) (L)) ∧ (TabAt w' b_6 ala cla TA) ∧ (¬ tabS b_6 ala b_1) ∧ (∀ q_, tabS b_6 ala q_ → ¬ tabS b_14 none q_) ∧ (∀ q_, tabS b_6 ala q_ → ¬ own aL q_) ∧ (∀ q_, tabS b_6 ala q_ → w.heap.size ≤ q_) ∧ (i ≤ L.length) ∧ (Knows (L.take i) TA)) (fun i => L.length - i) 0 ?_ ?_
    · refine ⟨_, _, _, ⟨rfl, rfl, rfl, rfl, rfl, rfl, rfl, rfl, trivial⟩, K0, hb_4, hT_16, ho_27, hT_8, pr_12, (fun q_ h1 h2 => pr_21 q_ h2 h1), (fun q_ h1 h2 => pr_29 q_ h2 h1), pg_13, ?_, ?_⟩
      · omega
      · rw [List.take_zero]; exact knows_new (by omega)
    clear hb_4 hT_8 hT_16 ho_27
    clear K0
    rintro i ρ_83 w_76 ⟨TA, ala, cla, hH_77, K0, hb_4, hT_16, ho_27, hO_78, pr_79, pr_80, pr_81, pr_82, hi, hKA0⟩ ih2
    obtain ⟨ρ₀, rfl⟩ := hH_77.ex
    clear hH_77
    refine Run.seq ?_
    refine Run.region ?_
    refine RL.val (x_ltI rfl rfl) ?_
    refine RL.nil ?_
    refine Run.seq ?_
    refine Run.cond rfl (fun hc65 => ?_) (fun hc65 => ?_)
    · try simp only [br] at hc65
      refine Run.skip ?_
      refine Run.seq ?_
      refine Run.block ?_
      refine Run.seq ?_
      refine Run.region ?_
      refine RL.val (x_moveI rfl) ?_
      obtain ⟨b_84, o_85, p, hp, ha_86, hc_87⟩ := ho_27.sl.el (i := i) (by first | omega | (simp only [List.length_set]; omega))
      refine RL.val (x_idxN Try.underlying32 ty23 rfl rfl ha_86 (by first | omega | (simp only [List.length_set]; omega))) ?_
      refine RL.val (x_ldV (v := .agg #[.int .i64 ((p).node), .int .i64 ((p).inc), .int .i64 ((p).status)]) (y := p) ty23 rfl hc_87 rfl) ?_
      refine RL.st rfl <| St1.alloc ty23 ?_
      intro b_90 w_91 hl_94 hb_93 K_92
      replace hb_93 : Blk w_91 b_90 [.int .i64 (0), .int .i64 (0), .int .i64 (0)] 23 := hb_93
      have ne_95 : b_1 < b_90 := Nat.lt_of_lt_of_le hb_4.lt hl_94
      have ne_96 : b_84 < b_90 := Nat.lt_of_lt_of_le hc_87.lt hl_94
      have pr_97 : ¬ tabS b_14 none b_90 := fun h => absurd (hT_16.own_lt _ h) (by omega)
      have pr_98 : ¬ own aL b_90 := fun h => absurd (ho_27.own_lt _ h) (by omega)
      have pr_99 : ¬ tabS b_6 ala b_90 := fun h => absurd (hO_78.own_lt _ h) (by omega)
      have : w.heap.size ≤ b_90 := Nat.le_trans K0.size hl_94
      clear hl_94
      replace hb_4 := hb_4.ext K_92
      replace hT_16 := hT_16.ext K_92
      replace ho_27 := ho_27.ext K_92
      replace hO_78 := hO_78.ext K_92
      replace hc_87 := hc_87.ext K_92
      replace K0 := K0.ext K_92
      refine RL.val (x_assignI rfl) ?_
      refine RL.st rfl <| St1.store (v := .agg #[.int .i64 ((p).node), .int .i64 ((p).inc), .int .i64 ((p).status)]) ty23 rfl rfl rfl (by simp [Value.cells, Value.oneCell']) hb_93 (by simp) ?_
      intro w_100 hb_93_ K_101
      have hb_93' : Blk w_100 b_90 [.int .i64 ((p).node), .int .i64 ((p).inc), .int .i64 ((p).status)] 23 := hb_93_
      clear hb_93_
      replace hb_4 := hb_4.keep K_101 (by simp only [one]; omega)
      replace hT_16 := hT_16.keepO K_101 (fun q_ hq_ eq_ => pr_97 (by simp only [one] at eq_; rw [← eq_]; exact hq_))
      replace ho_27 := ho_27.keepO K_101 (fun q_ hq_ eq_ => pr_98 (by simp only [one] at eq_; rw [← eq_]; exact hq_))
      replace hO_78 := hO_78.keepO K_101 (fun q_ hq_ eq_ => pr_99 (by simp only [one] at eq_; rw [← eq_]; exact hq_))
      replace hc_87 := hc_87.keep K_101 (fun e => pr_98 (by simp only [one] at e; rw [← e]; exact (own_sub _) _ ha_86))
      replace K0 := K0.new K_101 (fun x hx => by simp only [one] at hx; omega)
      replace hb_93 := hb_93'
      clear hb_93'
      refine RL.nil ?_
      have hwv := whenV_le hnw i
      have hgt := hall p (mem_of_at hp)
      have hl8 : TA.l.length = 8 := hO_78.ok.len
      refine Run.drawT [] (m := 7) (by kernel_rfl) rfl ?_
      intro w_102 K_103
      replace hb_4 := hb_4.ext K_103
      replace hT_16 := hT_16.ext K_103
      replace ho_27 := ho_27.ext K_103
      replace hO_78 := hO_78.ext K_103
      replace hb_93 := hb_93.ext K_103
      replace K0 := K0.ext K_103
      refine ⟨fun w' => Blk w' b_90 [.int .i64 ((p).node), .int .i64 ((p).inc), .int .i64 ((p).status)] 23 ∧ True, ?_⟩
      refine RT.takeP (v := .pointer (some ⟨b_6, 0, none⟩)) 0 rfl (by kernel_rfl) (.inr ⟨hb_93, trivial⟩) (fun _ => (x_moveP rfl)) ?_
      refine RT.take (v := .agg #[.int .i64 ((p).node), .int .i64 ((p).inc), .int .i64 ((p).status)]) 1 rfl (by kernel_rfl) ⟨hb_93, trivial⟩ (by rintro _ ⟨hb_93, -⟩; exact (x_lds (cs := #[.int .i64 ((p).node), .int .i64 ((p).inc), .int .i64 ((p).status)]) ty23 rfl rfl (hb_93.cl.drop 0 3))) ?_
      refine RT.takeP (v := .func (.func 19) #[] #[.pointer (some ⟨b_1, 0, none⟩)]) 3 rfl (by kernel_rfl) (.inr ⟨hb_93, trivial⟩) (fun _ => (x_moveF rfl)) ?_
      refine RT.takeP (v := .int .i64 (((i : Nat) : Int))) 4 rfl (by kernel_rfl) (.inr ⟨hb_93, trivial⟩) (fun _ => (x_moveI rfl)) ?_
      refine RT.fork2 2 5 (by kernel_rfl) ?_ ?_
      · refine RT1.st rfl <| St1.buildSlice ([p] : List Peer) Try.underlying32 ty23 rfl rfl (by first | decide | (simp [Enc.size])) ?_
        intro b_104 w_105 hl_108 ho_107 K_106
        have pr_109 : ¬ own (some ⟨b_104, 0, none⟩) b_1 := notNew (ge_new hl_108) hb_4.lt
        have pr_110 : ∀ q_, own (some ⟨b_104, 0, none⟩) q_ → ¬ tabS b_14 none q_ := apartNew (ge_new hl_108) hT_16.own_lt
        have pr_111 : ∀ q_, own (some ⟨b_104, 0, none⟩) q_ → ¬ own aL q_ := apartNew (ge_new hl_108) ho_27.own_lt
        have pr_112 : ∀ q_, own (some ⟨b_104, 0, none⟩) q_ → ¬ tabS b_6 ala q_ := apartNew (ge_new hl_108) hO_78.own_lt
        have pr_113 : ¬ own (some ⟨b_104, 0, none⟩) b_90 := notNew (ge_new hl_108) hb_93.lt
        have pg_114 : ∀ q_, own (some ⟨b_104, 0, none⟩) q_ → w.heap.size ≤ q_ := fun q_ h => Nat.le_trans K0.size ((ge_new hl_108) q_ h)
        clear hl_108
        replace hb_4 := hb_4.ext K_106
        replace hT_16 := hT_16.ext K_106
        replace ho_27 := ho_27.ext K_106
        replace hO_78 := hO_78.ext K_106
        replace hb_93 := hb_93.ext K_106
        replace K0 := K0.ext K_106
        refine ⟨.inr ⟨hb_93, trivial⟩, ?_⟩
        refine RT.st 5 rfl (by kernel_rfl) rfl <| St1.callV (vals := [.int .i64 (((i : Nat) : Int)), .pointer (some ⟨b_1, 0, none⟩)]) en19 rfl rfl (when_ i _ _ nows _ _ hb_4 (h2.ext K0) (by omega)) ?_
        rintro _ w_115 ⟨rfl, K_116⟩
        replace hb_4 := hb_4.ext K_116
        replace hT_16 := hT_16.ext K_116
        replace ho_27 := ho_27.ext K_116
        replace hO_78 := hO_78.ext K_116
        replace hb_93 := hb_93.ext K_116
        replace ho_107 := ho_107.ext K_116
        replace K0 := K0.ext K_116
        refine ⟨.inr ⟨hb_93, trivial⟩, ?_⟩
        refine RT.st 6 rfl (by kernel_rfl) rfl <| St1.call (vals := [.pointer (some ⟨b_6, 0, none⟩), .slice (some ⟨b_104, 0, none⟩) (([p] : List Peer).length) (([p] : List Peer).length), .int .i64 (whenV nows i)]) en15 rfl (hear_ _ _ _ TA _ ([p] : List Peer) _ (whenV nows i) _ hO_78 ho_107.sl (fun x hx _ hb => (fun q_ h1 h2 => pr_112 q_ h2 h1) _ hb ((own_sub _) x hx)) (by first | omega | simp) (by omega)) ?_
        rintro _ w_119 ⟨a_117, c_118, rfl, ho_120, hg_121, hT_122, K_123⟩
        have pr_124 : ¬ own a_117 b_1 := notNew hg_121 hb_4.lt
        have pr_125 : ∀ q_, own a_117 q_ → ¬ tabS b_14 none q_ := apartNew hg_121 hT_16.own_lt
        have pr_126 : ∀ q_, own a_117 q_ → ¬ own aL q_ := apartNew hg_121 ho_27.own_lt
        have pr_127 : ∀ q_, own a_117 q_ → ¬ tabS b_6 ala q_ := apartNew hg_121 hO_78.own_lt
        have pr_128 : ¬ own a_117 b_90 := notNew hg_121 hb_93.lt
        have pr_129 : ∀ q_, own a_117 q_ → ¬ own (some ⟨b_104, 0, none⟩) q_ := apartNew hg_121 ho_107.own_lt
        have pg_130 : ∀ q_, own a_117 q_ → w.heap.size ≤ q_ := fun q_ h => Nat.le_trans K0.size (hg_121 q_ h)
        clear hg_121
        replace hb_4 := hb_4.keep K_123 pr_79
        replace hT_16 := hT_16.keepO K_123 (fun q_ h1 h2 => pr_80 q_ h2 h1)
        replace ho_27 := ho_27.keepO K_123 (fun q_ h1 h2 => pr_81 q_ h2 h1)
        replace hb_93 := hb_93.keep K_123 pr_99
        replace ho_107 := ho_107.keepO K_123 pr_112
        replace K0 := K0.new K_123 pr_82
        replace hO_78 := hT_122
        clear hT_122
        refine ⟨.inr ⟨hb_93, trivial⟩, ?_⟩
        refine RT.done (by kernel_rfl) ?_
        refine Run.inBlock ?_
        refine Run.region ?_
        refine RL.val (litI (c := ((i + 1 : Nat) : Int)) (x_add rfl rfl (by omega) (by omega)) rfl) ?_
        refine RL.val (x_moveI rfl) ?_
        refine RL.nil ?_
        refine ih2 (i + 1) _ _ ?_ (by omega)
        refine ⟨_, _, _, ⟨rfl, rfl, rfl, rfl, rfl, rfl, rfl, rfl, trivial⟩, K0, hb_4, hT_16, ho_27, hO_78, pr_79, pr_80, pr_81, pr_82, ?_, ?_⟩
        · omega
        · rw [take_snoc_mem hp]; exact hKA0.heard hl8 hgt
      · refine RT1.st rfl <| St1.callV (vals := [.int .i64 (((i : Nat) : Int)), .pointer (some ⟨b_1, 0, none⟩)]) en19 rfl rfl (when_ i _ _ nows _ _ hb_4 (h2.ext K0) (by omega)) ?_
        rintro _ w_131 ⟨rfl, K_132⟩
        replace hb_4 := hb_4.ext K_132
        replace hT_16 := hT_16.ext K_132
        replace ho_27 := ho_27.ext K_132
        replace hO_78 := hO_78.ext K_132
        replace hb_93 := hb_93.ext K_132
        replace K0 := K0.ext K_132
        refine ⟨.inr ⟨hb_93, trivial⟩, ?_⟩
        refine RT.st 2 rfl (by kernel_rfl) rfl <| St1.buildSlice ([p] : List Peer) Try.underlying32 ty23 rfl rfl (by first | decide | (simp [Enc.size])) ?_
        intro b_133 w_134 hl_137 ho_136 K_135
        have pr_138 : ¬ own (some ⟨b_133, 0, none⟩) b_1 := notNew (ge_new hl_137) hb_4.lt
        have pr_139 : ∀ q_, own (some ⟨b_133, 0, none⟩) q_ → ¬ tabS b_14 none q_ := apartNew (ge_new hl_137) hT_16.own_lt
        have pr_140 : ∀ q_, own (some ⟨b_133, 0, none⟩) q_ → ¬ own aL q_ := apartNew (ge_new hl_137) ho_27.own_lt
        have pr_141 : ∀ q_, own (some ⟨b_133, 0, none⟩) q_ → ¬ tabS b_6 ala q_ := apartNew (ge_new hl_137) hO_78.own_lt
        have pr_142 : ¬ own (some ⟨b_133, 0, none⟩) b_90 := notNew (ge_new hl_137) hb_93.lt
        have pg_143 : ∀ q_, own (some ⟨b_133, 0, none⟩) q_ → w.heap.size ≤ q_ := fun q_ h => Nat.le_trans K0.size ((ge_new hl_137) q_ h)
        clear hl_137
        replace hb_4 := hb_4.ext K_135
        replace hT_16 := hT_16.ext K_135
        replace ho_27 := ho_27.ext K_135
        replace hO_78 := hO_78.ext K_135
        replace hb_93 := hb_93.ext K_135
        replace K0 := K0.ext K_135
        refine ⟨.inr ⟨hb_93, trivial⟩, ?_⟩
        refine RT.st 6 rfl (by kernel_rfl) rfl <| St1.call (vals := [.pointer (some ⟨b_6, 0, none⟩), .slice (some ⟨b_133, 0, none⟩) (([p] : List Peer).length) (([p] : List Peer).length), .int .i64 (whenV nows i)]) en15 rfl (hear_ _ _ _ TA _ ([p] : List Peer) _ (whenV nows i) _ hO_78 ho_136.sl (fun x hx _ hb => (fun q_ h1 h2 => pr_141 q_ h2 h1) _ hb ((own_sub _) x hx)) (by first | omega | simp) (by omega)) ?_
        rintro _ w_146 ⟨a_144, c_145, rfl, ho_147, hg_148, hT_149, K_150⟩
        have pr_151 : ¬ own a_144 b_1 := notNew hg_148 hb_4.lt
        have pr_152 : ∀ q_, own a_144 q_ → ¬ tabS b_14 none q_ := apartNew hg_148 hT_16.own_lt
        have pr_153 : ∀ q_, own a_144 q_ → ¬ own aL q_ := apartNew hg_148 ho_27.own_lt
        have pr_154 : ∀ q_, own a_144 q_ → ¬ tabS b_6 ala q_ := apartNew hg_148 hO_78.own_lt
        have pr_155 : ¬ own a_144 b_90 := notNew hg_148 hb_93.lt
        have pr_156 : ∀ q_, own a_144 q_ → ¬ own (some ⟨b_133, 0, none⟩) q_ := apartNew hg_148 ho_136.own_lt
        have pg_157 : ∀ q_, own a_144 q_ → w.heap.size ≤ q_ := fun q_ h => Nat.le_trans K0.size (hg_148 q_ h)
        clear hg_148
        replace hb_4 := hb_4.keep K_150 pr_79
        replace hT_16 := hT_16.keepO K_150 (fun q_ h1 h2 => pr_80 q_ h2 h1)
        replace ho_27 := ho_27.keepO K_150 (fun q_ h1 h2 => pr_81 q_ h2 h1)
        replace hb_93 := hb_93.keep K_150 pr_99
        replace ho_136 := ho_136.keepO K_150 pr_141
        replace K0 := K0.new K_150 pr_82
        replace hO_78 := hT_149
        clear hT_149
        refine ⟨.inr ⟨hb_93, trivial⟩, ?_⟩
        refine RT.done (by kernel_rfl) ?_
        refine Run.inBlock ?_
        refine Run.region ?_
        refine RL.val (litI (c := ((i + 1 : Nat) : Int)) (x_add rfl rfl (by omega) (by omega)) rfl) ?_
        refine RL.val (x_moveI rfl) ?_
        refine RL.nil ?_
        refine ih2 (i + 1) _ _ ?_ (by omega)
        refine ⟨_, _, _, ⟨rfl, rfl, rfl, rfl, rfl, rfl, rfl, rfl, trivial⟩, K0, hb_4, hT_16, ho_27, hO_78, pr_79, pr_80, pr_81, pr_82, ?_, ?_⟩
        · omega
        · rw [take_snoc_mem hp]; exact hKA0.heard hl8 hgt
    · try simp only [br] at hc65
      refine Run.exit rfl ?_
      refine Run.seq ?_
      refine Run.seq ?_
      have hKA : Knows L TA := by rw [List.take_of_length_le (by omega)] at hKA0; exact hKA0
      refine Run.region ?_
      refine RL.val (x_moveSl rfl) ?_
      refine RL.val (x_lenSl Try.underlying40 rfl) ?_
      refine RL.val (x_moveI rfl) ?_
      refine RL.nil ?_
      refine Run.block ?_
      refine Run.loop (ι := Nat) (fun i ρ' w' => ∃ TB : Tab, ∃ R : List Peer, ∃ alb : Option Addr, ∃ clb : Nat, Holds ρ' [(7, .pointer (some ⟨b_6, 0, none⟩)), (9, .pointer (some ⟨b_14, 0, none⟩)), (11, .slice (aL) ((L).length) (cL)), (14, .func (.func 19) #[] #[.pointer (some ⟨b_1, 0, none⟩)]), (77, .slice (a1) (order.length) (c1)), (78, .int .i64 (((order.length : Nat) : Int))), (79, .int .i64 (((i : Nat) : Int)))] ∧ Ext w w' ∧ (Blk w' b_1 [.slice (a2) (nows.length) (c2)] 41) ∧ (OwnSl w' 23 (aL) (cL) (L)) ∧ (TabAt w' b_6 ala cla TA) ∧ (TabAt w' b_14 alb clb TB) ∧ (¬ tabS b_14 alb b_1) ∧ (∀ q_, tabS b_14 alb q_ → ¬ own aL q_) ∧ (∀ q_, tabS b_14 alb q_ → ¬ tabS b_6 ala q_) ∧ (∀ q_, tabS b_14 alb q_ → w.heap.size ≤ q_) ∧ (i ≤ order.length) ∧ (Knows R TB) ∧ (∀ r ∈ R, r ∈ L)) (fun i => order.length - i) 0 ?_ ?_
      · refine ⟨_, [], _, _, ⟨rfl, rfl, rfl, rfl, rfl, rfl, rfl, trivial⟩, K0, hb_4, ho_27, hO_78, hT_16, pr_20, (fun q_ h1 h2 => pr_30 q_ h2 h1), (fun q_ h1 h2 => pr_80 q_ h2 h1), pg_22, ?_, ?_, ?_⟩
        · omega
        · exact knows_new (by omega)
        · simp
      clear hb_4 hT_16 ho_27 hO_78
      clear K0
      rintro i ρ_165 w_158 ⟨TB, R, alb, clb, hH_159, K0, hb_4, ho_27, hO_78, hO_160, pr_161, pr_162, pr_163, pr_164, hi, hKB, hRL⟩ ih3
      obtain ⟨ρ₀, rfl⟩ := hH_159.ex
      clear hH_159
      refine Run.seq ?_
      refine Run.region ?_
      refine RL.val (x_ltI rfl rfl) ?_
      refine RL.nil ?_
      refine Run.seq ?_
      refine Run.cond rfl (fun hc80 => ?_) (fun hc80 => ?_)
      · try simp only [br] at hc80
        refine Run.skip ?_
        refine Run.seq ?_
        refine Run.block ?_
        refine Run.seq ?_
        refine Run.region ?_
        refine RL.val (x_moveI rfl) ?_
        obtain ⟨b_166, o_167, k, hk, ha_168, hc_169⟩ := h1.el (i := i) (by first | omega | (simp only [List.length_set]; omega))
        have hc_169_lt := hc_169.lt
        replace hc_169 := hc_169.ext K0
        refine RL.val (x_idxN Try.underlying40 ty27 rfl rfl ha_168 (by first | omega | (simp only [List.length_set]; omega))) ?_
        refine RL.val (x_ldV (v := .int .u64 ((k).v)) (y := k) ty27 rfl hc_169 rfl) ?_
        refine RL.val (x_assignI rfl) ?_
        refine RL.val (x_assignI rfl) ?_
        refine RL.nil ?_
        refine Run.seq ?_
        refine Run.region ?_
        refine RL.val (x_moveSl rfl) ?_
        refine RL.val (x_lenSl Try.underlying32 rfl) ?_
        refine RL.val (x_gtI rfl rfl) ?_
        refine RL.nil ?_
        refine Run.cond rfl (fun hc86 => ?_) (fun hc86 => ?_)
        · try simp only [br] at hc86
          have hk0 := hor k (mem_of_at hk)
          obtain ⟨jj, hjj, hjl⟩ := modN (k := k.v) (m := L.length) hk0 (by omega)
          have hwv := whenV_le hnw i
          have hl8 : TB.l.length = 8 := hO_160.ok.len
          obtain ⟨b_174, o_175, p, hp, ha_176, hc_177⟩ := ho_27.sl.el (i := jj) (by first | omega | (simp only [List.length_set]; omega))
          refine Run.drawT [] (m := 14) (by kernel_rfl) rfl ?_
          intro w_172 K_173
          replace hb_4 := hb_4.ext K_173
          replace ho_27 := ho_27.ext K_173
          replace hO_78 := hO_78.ext K_173
          replace hO_160 := hO_160.ext K_173
          replace hc_177 := hc_177.ext K_173
          replace K0 := K0.ext K_173
          refine ⟨fun w' => Cl w' b_174 (o_175 + jj * 3) (cellsOf p) ∧ True, ?_⟩
          refine RT.takeP (v := .pointer (some ⟨b_14, 0, none⟩)) 0 rfl (by kernel_rfl) (.inr ⟨hc_177, trivial⟩) (fun _ => (x_moveP rfl)) ?_
          refine RT.takeP (v := .slice (aL) ((L).length) (cL)) 1 rfl (by kernel_rfl) (.inr ⟨hc_177, trivial⟩) (fun _ => (x_moveSl rfl)) ?_
          refine RT.takeP (v := .int .u64 ((k).v)) 2 rfl (by kernel_rfl) (.inr ⟨hc_177, trivial⟩) (fun _ => (x_moveI rfl)) ?_
          refine RT.takeP (v := .slice (aL) ((L).length) (cL)) 3 rfl (by kernel_rfl) (.inr ⟨hc_177, trivial⟩) (fun _ => (x_moveSl rfl)) ?_
          refine RT.takeP (v := .int .i64 ((((L).length : Nat) : Int))) 4 rfl (by kernel_rfl) (.inr ⟨hc_177, trivial⟩) (fun _ => (x_lenSl Try.underlying32 rfl)) ?_
          refine RT.takeP (v := .int .u64 (((L.length : Nat) : Int))) 5 rfl (by kernel_rfl) (.inr ⟨hc_177, trivial⟩) (fun _ => (litI (c := ((L.length : Nat) : Int)) (x_convI rfl ⟨_, Try.underlying3⟩ Try.underlying27) (wrapu (by omega)))) ?_
          refine RT.takeP (v := .int .u64 (((jj : Nat) : Int))) 6 rfl (by kernel_rfl) (.inr ⟨hc_177, trivial⟩) (fun _ => (litI (c := ((jj : Nat) : Int)) (x_rem rfl rfl (by omega)) hjj)) ?_
          refine RT.takeP (v := .pointer (some ⟨b_174, o_175 + jj * 3, none⟩)) 7 rfl (by kernel_rfl) (.inr ⟨hc_177, trivial⟩) (fun _ => (x_idxN Try.underlying32 ty23 rfl rfl ha_176 (by first | omega | (simp only [List.length_set]; omega)))) ?_
          refine RT.take (v := .agg #[.int .i64 ((p).node), .int .i64 ((p).inc), .int .i64 ((p).status)]) 8 rfl (by kernel_rfl) ⟨hc_177, trivial⟩ (by rintro _ ⟨hc_177, -⟩; exact (x_ldV (v := .agg #[.int .i64 ((p).node), .int .i64 ((p).inc), .int .i64 ((p).status)]) (y := p) ty23 rfl hc_177 rfl)) ?_
          refine RT.takeP (v := .func (.func 19) #[] #[.pointer (some ⟨b_1, 0, none⟩)]) 10 rfl (by kernel_rfl) (.inr ⟨hc_177, trivial⟩) (fun _ => (x_moveF rfl)) ?_
          refine RT.takeP (v := .int .i64 (((i : Nat) : Int))) 11 rfl (by kernel_rfl) (.inr ⟨hc_177, trivial⟩) (fun _ => (x_moveI rfl)) ?_
          refine RT.fork2 9 12 (by kernel_rfl) ?_ ?_
          · refine RT1.st rfl <| St1.buildSlice ([p] : List Peer) Try.underlying32 ty23 rfl rfl (by first | decide | (simp [Enc.size])) ?_
            intro b_180 w_181 hl_184 ho_183 K_182
            have pr_185 : ¬ own (some ⟨b_180, 0, none⟩) b_1 := notNew (ge_new hl_184) hb_4.lt
            have pr_186 : ∀ q_, own (some ⟨b_180, 0, none⟩) q_ → ¬ own aL q_ := apartNew (ge_new hl_184) ho_27.own_lt
            have pr_187 : ∀ q_, own (some ⟨b_180, 0, none⟩) q_ → ¬ tabS b_6 ala q_ := apartNew (ge_new hl_184) hO_78.own_lt
            have pr_188 : ∀ q_, own (some ⟨b_180, 0, none⟩) q_ → ¬ tabS b_14 alb q_ := apartNew (ge_new hl_184) hO_160.own_lt
            have pg_189 : ∀ q_, own (some ⟨b_180, 0, none⟩) q_ → w.heap.size ≤ q_ := fun q_ h => Nat.le_trans K0.size ((ge_new hl_184) q_ h)
            clear hl_184
            replace hb_4 := hb_4.ext K_182
            replace ho_27 := ho_27.ext K_182
            replace hO_78 := hO_78.ext K_182
            replace hO_160 := hO_160.ext K_182
            replace hc_177 := hc_177.ext K_182
            replace K0 := K0.ext K_182
            refine ⟨.inr ⟨hc_177, trivial⟩, ?_⟩
            refine RT.st 12 rfl (by kernel_rfl) rfl <| St1.callV (vals := [.int .i64 (((i : Nat) : Int)), .pointer (some ⟨b_1, 0, none⟩)]) en19 rfl rfl (when_ i _ _ nows _ _ hb_4 (h2.ext K0) (by omega)) ?_
            rintro _ w_190 ⟨rfl, K_191⟩
            replace hb_4 := hb_4.ext K_191
            replace ho_27 := ho_27.ext K_191
            replace hO_78 := hO_78.ext K_191
            replace hO_160 := hO_160.ext K_191
            replace hc_177 := hc_177.ext K_191
            replace ho_183 := ho_183.ext K_191
            replace K0 := K0.ext K_191
            refine ⟨.inr ⟨hc_177, trivial⟩, ?_⟩
            refine RT.st 13 rfl (by kernel_rfl) rfl <| St1.call (vals := [.pointer (some ⟨b_14, 0, none⟩), .slice (some ⟨b_180, 0, none⟩) (([p] : List Peer).length) (([p] : List Peer).length), .int .i64 (whenV nows i)]) en15 rfl (hear_ _ _ _ TB _ ([p] : List Peer) _ (whenV nows i) _ hO_160 ho_183.sl (fun x hx _ hb => (fun q_ h1 h2 => pr_188 q_ h2 h1) _ hb ((own_sub _) x hx)) (by first | omega | simp) (by omega)) ?_
            rintro _ w_194 ⟨a_192, c_193, rfl, ho_195, hg_196, hT_197, K_198⟩
            have pr_199 : ¬ own a_192 b_1 := notNew hg_196 hb_4.lt
            have pr_200 : ∀ q_, own a_192 q_ → ¬ own aL q_ := apartNew hg_196 ho_27.own_lt
            have pr_201 : ∀ q_, own a_192 q_ → ¬ tabS b_6 ala q_ := apartNew hg_196 hO_78.own_lt
            have pr_202 : ∀ q_, own a_192 q_ → ¬ tabS b_14 alb q_ := apartNew hg_196 hO_160.own_lt
            have pr_203 : ∀ q_, own a_192 q_ → ¬ own (some ⟨b_180, 0, none⟩) q_ := apartNew hg_196 ho_183.own_lt
            have pg_204 : ∀ q_, own a_192 q_ → w.heap.size ≤ q_ := fun q_ h => Nat.le_trans K0.size (hg_196 q_ h)
            clear hg_196
            replace hb_4 := hb_4.keep K_198 pr_161
            replace ho_27 := ho_27.keepO K_198 (fun q_ h1 h2 => pr_162 q_ h2 h1)
            replace hO_78 := hO_78.keepO K_198 (fun q_ h1 h2 => pr_163 q_ h2 h1)
            replace hc_177 := hc_177.keep K_198 (fun h => (fun q_ h1 h2 => pr_162 q_ h2 h1) _ ((own_sub _) _ ha_176) h)
            replace ho_183 := ho_183.keepO K_198 pr_188
            replace K0 := K0.new K_198 pr_164
            replace hO_160 := hT_197
            clear hT_197
            refine ⟨.inr ⟨hc_177, trivial⟩, ?_⟩
            refine RT.done (by kernel_rfl) ?_
            have hgt := hall p (mem_of_at hp)
            refine Run.inBlock ?_
            refine Run.region ?_
            refine RL.val (litI (c := ((i + 1 : Nat) : Int)) (x_add rfl rfl (by omega) (by omega)) rfl) ?_
            refine RL.val (x_moveI rfl) ?_
            refine RL.nil ?_
            refine ih3 (i + 1) _ _ ?_ (by omega)
            refine ⟨_, R ++ [p], _, _, ⟨rfl, rfl, rfl, rfl, rfl, rfl, rfl, trivial⟩, K0, hb_4, ho_27, hO_78, hO_160, pr_161, pr_162, pr_163, pr_164, ?_, ?_, ?_⟩
            · omega
            · exact hKB.heard hl8 hgt
            · intro y hy
              rcases List.mem_append.1 hy with hy | hy
              · exact hRL y hy
              · simp only [List.mem_singleton] at hy; subst hy; exact mem_of_at hp
          · refine RT1.st rfl <| St1.callV (vals := [.int .i64 (((i : Nat) : Int)), .pointer (some ⟨b_1, 0, none⟩)]) en19 rfl rfl (when_ i _ _ nows _ _ hb_4 (h2.ext K0) (by omega)) ?_
            rintro _ w_205 ⟨rfl, K_206⟩
            replace hb_4 := hb_4.ext K_206
            replace ho_27 := ho_27.ext K_206
            replace hO_78 := hO_78.ext K_206
            replace hO_160 := hO_160.ext K_206
            replace hc_177 := hc_177.ext K_206
            replace K0 := K0.ext K_206
            refine ⟨.inr ⟨hc_177, trivial⟩, ?_⟩
            refine RT.st 9 rfl (by kernel_rfl) rfl <| St1.buildSlice ([p] : List Peer) Try.underlying32 ty23 rfl rfl (by first | decide | (simp [Enc.size])) ?_
            intro b_207 w_208 hl_211 ho_210 K_209
            have pr_212 : ¬ own (some ⟨b_207, 0, none⟩) b_1 := notNew (ge_new hl_211) hb_4.lt
            have pr_213 : ∀ q_, own (some ⟨b_207, 0, none⟩) q_ → ¬ own aL q_ := apartNew (ge_new hl_211) ho_27.own_lt
            have pr_214 : ∀ q_, own (some ⟨b_207, 0, none⟩) q_ → ¬ tabS b_6 ala q_ := apartNew (ge_new hl_211) hO_78.own_lt
            have pr_215 : ∀ q_, own (some ⟨b_207, 0, none⟩) q_ → ¬ tabS b_14 alb q_ := apartNew (ge_new hl_211) hO_160.own_lt
            have pg_216 : ∀ q_, own (some ⟨b_207, 0, none⟩) q_ → w.heap.size ≤ q_ := fun q_ h => Nat.le_trans K0.size ((ge_new hl_211) q_ h)
            clear hl_211
            replace hb_4 := hb_4.ext K_209
            replace ho_27 := ho_27.ext K_209
            replace hO_78 := hO_78.ext K_209
            replace hO_160 := hO_160.ext K_209
            replace hc_177 := hc_177.ext K_209
            replace K0 := K0.ext K_209
            refine ⟨.inr ⟨hc_177, trivial⟩, ?_⟩
            refine RT.st 13 rfl (by kernel_rfl) rfl <| St1.call (vals := [.pointer (some ⟨b_14, 0, none⟩), .slice (some ⟨b_207, 0, none⟩) (([p] : List Peer).length) (([p] : List Peer).length), .int .i64 (whenV nows i)]) en15 rfl (hear_ _ _ _ TB _ ([p] : List Peer) _ (whenV nows i) _ hO_160 ho_210.sl (fun x hx _ hb => (fun q_ h1 h2 => pr_215 q_ h2 h1) _ hb ((own_sub _) x hx)) (by first | omega | simp) (by omega)) ?_
            rintro _ w_219 ⟨a_217, c_218, rfl, ho_220, hg_221, hT_222, K_223⟩
            have pr_224 : ¬ own a_217 b_1 := notNew hg_221 hb_4.lt
            have pr_225 : ∀ q_, own a_217 q_ → ¬ own aL q_ := apartNew hg_221 ho_27.own_lt
            have pr_226 : ∀ q_, own a_217 q_ → ¬ tabS b_6 ala q_ := apartNew hg_221 hO_78.own_lt
            have pr_227 : ∀ q_, own a_217 q_ → ¬ tabS b_14 alb q_ := apartNew hg_221 hO_160.own_lt
            have pr_228 : ∀ q_, own a_217 q_ → ¬ own (some ⟨b_207, 0, none⟩) q_ := apartNew hg_221 ho_210.own_lt
            have pg_229 : ∀ q_, own a_217 q_ → w.heap.size ≤ q_ := fun q_ h => Nat.le_trans K0.size (hg_221 q_ h)
            clear hg_221
            replace hb_4 := hb_4.keep K_223 pr_161
            replace ho_27 := ho_27.keepO K_223 (fun q_ h1 h2 => pr_162 q_ h2 h1)
            replace hO_78 := hO_78.keepO K_223 (fun q_ h1 h2 => pr_163 q_ h2 h1)
            replace hc_177 := hc_177.keep K_223 (fun h => (fun q_ h1 h2 => pr_162 q_ h2 h1) _ ((own_sub _) _ ha_176) h)
            replace ho_210 := ho_210.keepO K_223 pr_215
            replace K0 := K0.new K_223 pr_164
            replace hO_160 := hT_222
            clear hT_222
            refine ⟨.inr ⟨hc_177, trivial⟩, ?_⟩
            refine RT.done (by kernel_rfl) ?_
            have hgt := hall p (mem_of_at hp)
            refine Run.inBlock ?_
            refine Run.region ?_
            refine RL.val (litI (c := ((i + 1 : Nat) : Int)) (x_add rfl rfl (by omega) (by omega)) rfl) ?_
            refine RL.val (x_moveI rfl) ?_
            refine RL.nil ?_
            refine ih3 (i + 1) _ _ ?_ (by omega)
            refine ⟨_, R ++ [p], _, _, ⟨rfl, rfl, rfl, rfl, rfl, rfl, rfl, trivial⟩, K0, hb_4, ho_27, hO_78, hO_160, pr_161, pr_162, pr_163, pr_164, ?_, ?_, ?_⟩
            · omega
            · exact hKB.heard hl8 hgt
            · intro y hy
              rcases List.mem_append.1 hy with hy | hy
              · exact hRL y hy
              · simp only [List.mem_singleton] at hy; subst hy; exact mem_of_at hp
        · try simp only [br] at hc86
          refine Run.skip ?_
          refine Run.inBlock ?_
          refine Run.region ?_
          refine RL.val (litI (c := ((i + 1 : Nat) : Int)) (x_add rfl rfl (by omega) (by omega)) rfl) ?_
          refine RL.val (x_moveI rfl) ?_
          refine RL.nil ?_
          refine ih3 (i + 1) _ _ ?_ (by omega)
          refine ⟨_, R, _, _, ⟨rfl, rfl, rfl, rfl, rfl, rfl, rfl, trivial⟩, K0, hb_4, ho_27, hO_78, hO_160, pr_161, pr_162, pr_163, pr_164, ?_, ?_, ?_⟩
          · omega
          · exact hKB
          · exact hRL
      · try simp only [br] at hc80
        refine Run.exit rfl ?_
        refine Run.seq ?_
        refine Run.seq ?_
        refine Run.region ?_
        refine RL.val (x_moveSl rfl) ?_
        refine RL.val (x_lenSl Try.underlying32 rfl) ?_
        refine RL.val (x_moveI rfl) ?_
        refine RL.nil ?_
        refine Run.block ?_
        refine Run.loop (ι := Nat) (fun i ρ' w' => ∃ TB : Tab, ∃ R : List Peer, ∃ alb : Option Addr, ∃ clb : Nat, Holds ρ' [(7, .pointer (some ⟨b_6, 0, none⟩)), (9, .pointer (some ⟨b_14, 0, none⟩)), (11, .slice (aL) ((L).length) (cL)), (103, .int .i64 ((((L).length : Nat) : Int))), (104, .int .i64 (((i : Nat) : Int)))] ∧ Ext w w' ∧ (Blk w' b_1 [.slice (a2) (nows.length) (c2)] 41) ∧ (OwnSl w' 23 (aL) (cL) (L)) ∧ (TabAt w' b_6 ala cla TA) ∧ (TabAt w' b_14 alb clb TB) ∧ (¬ tabS b_14 alb b_1) ∧ (∀ q_, tabS b_14 alb q_ → ¬ own aL q_) ∧ (∀ q_, tabS b_14 alb q_ → ¬ tabS b_6 ala q_) ∧ (∀ q_, tabS b_14 alb q_ → w.heap.size ≤ q_) ∧ (i ≤ L.length) ∧ (Knows R TB) ∧ (∀ r ∈ R, r ∈ L) ∧ (∀ j x, L.length - i ≤ j → L[j]? = some x → x ∈ R)) (fun i => L.length - i) 0 ?_ ?_
        · refine ⟨_, R, _, _, ⟨rfl, rfl, rfl, rfl, rfl, trivial⟩, K0, hb_4, ho_27, hO_78, hO_160, pr_161, pr_162, pr_163, pr_164, ?_, ?_, ?_, ?_⟩
          · omega
          · exact hKB
          · exact hRL
          · intro j x hj hx; have := (List.getElem?_eq_some_iff.1 hx).1; omega
        clear hb_4 ho_27 hO_78 hO_160
        clear K0
        rintro i ρ_237 w_230 ⟨TB, R, alb, clb, hH_231, K0, hb_4, ho_27, hO_78, hO_232, pr_233, pr_234, pr_235, pr_236, hi, hKB, hRL, hRi⟩ ih4
        obtain ⟨ρ₀, rfl⟩ := hH_231.ex
        clear hH_231
        refine Run.seq ?_
        refine Run.region ?_
        refine RL.val (x_ltI rfl rfl) ?_
        refine RL.nil ?_
        refine Run.seq ?_
        refine Run.cond rfl (fun hc105 => ?_) (fun hc105 => ?_)
        · try simp only [br] at hc105
          refine Run.skip ?_
          refine Run.seq ?_
          refine Run.block ?_
          refine Run.seq ?_
          refine Run.region ?_
          refine RL.val (x_moveI rfl) ?_
          refine RL.val (x_assignI rfl) ?_
          refine RL.nil ?_
          have hl8 : TB.l.length = 8 := hO_232.ok.len
          refine Run.region ?_
          refine RL.val (x_moveP rfl) ?_
          refine RL.val (x_moveSl rfl) ?_
          refine RL.val (x_moveSl rfl) ?_
          refine RL.val (x_lenSl Try.underlying32 rfl) ?_
          refine RL.val (x_sub rfl rfl (by omega) (by omega)) ?_
          refine RL.val (x_moveI rfl) ?_
          refine RL.val (litI (c := ((L.length - 1 - i : Nat) : Int)) (x_sub rfl rfl (by omega) (by omega)) (by omega)) ?_
          obtain ⟨b_238, o_239, p, hp, ha_240, hc_241⟩ := ho_27.sl.el (i := L.length - 1 - i) (by omega)
          refine RL.val (x_idxN Try.underlying32 ty23 rfl rfl ha_240 (by omega)) ?_
          refine RL.val (x_ldV (v := .agg #[.int .i64 ((p).node), .int .i64 ((p).inc), .int .i64 ((p).status)]) (y := p) ty23 rfl hc_241 rfl) ?_
          refine RL.st rfl <| St1.buildSlice ([p] : List Peer) Try.underlying32 ty23 rfl rfl (by first | decide | (simp [Enc.size])) ?_
          intro b_244 w_245 hl_248 ho_247 K_246
          have pr_249 : ¬ own (some ⟨b_244, 0, none⟩) b_1 := notNew (ge_new hl_248) hb_4.lt
          have pr_250 : ∀ q_, own (some ⟨b_244, 0, none⟩) q_ → ¬ own aL q_ := apartNew (ge_new hl_248) ho_27.own_lt
          have pr_251 : ∀ q_, own (some ⟨b_244, 0, none⟩) q_ → ¬ tabS b_6 ala q_ := apartNew (ge_new hl_248) hO_78.own_lt
          have pr_252 : ∀ q_, own (some ⟨b_244, 0, none⟩) q_ → ¬ tabS b_14 alb q_ := apartNew (ge_new hl_248) hO_232.own_lt
          have pg_253 : ∀ q_, own (some ⟨b_244, 0, none⟩) q_ → w.heap.size ≤ q_ := fun q_ h => Nat.le_trans K0.size ((ge_new hl_248) q_ h)
          clear hl_248
          replace hb_4 := hb_4.ext K_246
          replace ho_27 := ho_27.ext K_246
          replace hO_78 := hO_78.ext K_246
          replace hO_232 := hO_232.ext K_246
          replace hc_241 := hc_241.ext K_246
          replace K0 := K0.ext K_246
          refine RL.st rfl <| St1.call (vals := [.pointer (some ⟨b_14, 0, none⟩), .slice (some ⟨b_244, 0, none⟩) (([p] : List Peer).length) (([p] : List Peer).length), .int .i64 (0)]) en15 rfl (hear_ _ _ _ TB _ ([p] : List Peer) _ 0 _ hO_232 ho_247.sl (fun x hx _ hb => (fun q_ h1 h2 => pr_252 q_ h2 h1) _ hb ((own_sub _) x hx)) (by first | omega | simp) (by omega)) ?_
          rintro _ w_256 ⟨a_254, c_255, rfl, ho_257, hg_258, hT_259, K_260⟩
          have pr_261 : ¬ own a_254 b_1 := notNew hg_258 hb_4.lt
          have pr_262 : ∀ q_, own a_254 q_ → ¬ own aL q_ := apartNew hg_258 ho_27.own_lt
          have pr_263 : ∀ q_, own a_254 q_ → ¬ tabS b_6 ala q_ := apartNew hg_258 hO_78.own_lt
          have pr_264 : ∀ q_, own a_254 q_ → ¬ tabS b_14 alb q_ := apartNew hg_258 hO_232.own_lt
          have pr_265 : ∀ q_, own a_254 q_ → ¬ own (some ⟨b_244, 0, none⟩) q_ := apartNew hg_258 ho_247.own_lt
          have pg_266 : ∀ q_, own a_254 q_ → w.heap.size ≤ q_ := fun q_ h => Nat.le_trans K0.size (hg_258 q_ h)
          clear hg_258
          replace hb_4 := hb_4.keep K_260 pr_233
          replace ho_27 := ho_27.keepO K_260 (fun q_ h1 h2 => pr_234 q_ h2 h1)
          replace hO_78 := hO_78.keepO K_260 (fun q_ h1 h2 => pr_235 q_ h2 h1)
          replace hc_241 := hc_241.keep K_260 (fun h => (fun q_ h1 h2 => pr_234 q_ h2 h1) _ ((own_sub _) _ ha_240) h)
          replace ho_247 := ho_247.keepO K_260 pr_252
          replace K0 := K0.new K_260 pr_236
          replace hO_232 := hT_259
          clear hT_259
          refine RL.nil ?_
          have hgt := hall p (mem_of_at hp)
          refine Run.inBlock ?_
          refine Run.region ?_
          refine RL.val (litI (c := ((i + 1 : Nat) : Int)) (x_add rfl rfl (by omega) (by omega)) rfl) ?_
          refine RL.val (x_moveI rfl) ?_
          refine RL.nil ?_
          refine ih4 (i + 1) _ _ ?_ (by omega)
          refine ⟨_, R ++ [p], _, _, ⟨rfl, rfl, rfl, rfl, rfl, trivial⟩, K0, hb_4, ho_27, hO_78, hO_232, pr_233, pr_234, pr_235, pr_236, ?_, ?_, ?_, ?_⟩
          · omega
          · exact hKB.heard hl8 hgt
          · intro y hy
            rcases List.mem_append.1 hy with hy | hy
            · exact hRL y hy
            · simp only [List.mem_singleton] at hy; subst hy; exact mem_of_at hp
          · intro j x hj hx
            by_cases he : j = L.length - 1 - i
            · subst he; rw [hp] at hx; cases hx; exact List.mem_append_right _ (List.mem_singleton.2 rfl)
            · exact List.mem_append_left _ (hRi j x (by omega) hx)
        · try simp only [br] at hc105
          refine Run.exit rfl ?_
          refine Run.seq ?_
          have hil : i = L.length := by omega
          have hin : ∀ r ∈ L, r ∈ R := by
            intro r hr
            obtain ⟨j, hj, rfl⟩ := List.getElem_of_mem hr
            exact hRi j _ (by omega) (by simp)
          refine Run.region ?_
          refine RL.val (x_assignF rfl) ?_
          refine RL.nil ?_
          refine Run.seq ?_
          have hpa := peersL_len TA.l
          have hpb := peersL_len TB.l
          have hla := hO_78.ok.len
          have hlb := hO_232.ok.len
          have hfa := List.length_filter_le (fun x : Peer => !decide (x.node < 2)) (peersL TA.l)
          refine Run.region ?_
          refine RL.val (x_moveF rfl) ?_
          refine RL.val (x_moveP rfl) ?_
          refine RL.st rfl <| St1.callV (vals := [.pointer (some ⟨b_6, 0, none⟩)]) en20 rfl rfl (rest_ _ _ _ TA _ hO_78.blk hO_78.ok.len) ?_
          rintro _ w_269 ⟨a_267, c_268, rfl, ho_270, hg_271, K_272⟩
          have pr_273 : ¬ own a_267 b_1 := notNew hg_271 hb_4.lt
          have pr_274 : ∀ q_, own a_267 q_ → ¬ own aL q_ := apartNew hg_271 ho_27.own_lt
          have pr_275 : ∀ q_, own a_267 q_ → ¬ tabS b_6 ala q_ := apartNew hg_271 hO_78.own_lt
          have pr_276 : ∀ q_, own a_267 q_ → ¬ tabS b_14 alb q_ := apartNew hg_271 hO_232.own_lt
          have pg_277 : ∀ q_, own a_267 q_ → w.heap.size ≤ q_ := fun q_ h => Nat.le_trans K0.size (hg_271 q_ h)
          clear hg_271
          replace hb_4 := hb_4.ext K_272
          replace ho_27 := ho_27.ext K_272
          replace hO_78 := hO_78.ext K_272
          replace hO_232 := hO_232.ext K_272
          replace K0 := K0.ext K_272
          refine RL.val (x_moveF rfl) ?_
          refine RL.val (x_moveP rfl) ?_
          refine RL.st rfl <| St1.callV (vals := [.pointer (some ⟨b_14, 0, none⟩)]) en20 rfl rfl (rest_ _ _ _ TB _ hO_232.blk hO_232.ok.len) ?_
          rintro _ w_280 ⟨a_278, c_279, rfl, ho_281, hg_282, K_283⟩
          have pr_284 : ¬ own a_278 b_1 := notNew hg_282 hb_4.lt
          have pr_285 : ∀ q_, own a_278 q_ → ¬ own aL q_ := apartNew hg_282 ho_27.own_lt
          have pr_286 : ∀ q_, own a_278 q_ → ¬ tabS b_6 ala q_ := apartNew hg_282 hO_78.own_lt
          have pr_287 : ∀ q_, own a_278 q_ → ¬ tabS b_14 alb q_ := apartNew hg_282 hO_232.own_lt
          have pr_288 : ∀ q_, own a_278 q_ → ¬ own a_267 q_ := apartNew hg_282 ho_270.own_lt
          have pg_289 : ∀ q_, own a_278 q_ → w.heap.size ≤ q_ := fun q_ h => Nat.le_trans K0.size (hg_282 q_ h)
          clear hg_282
          replace hb_4 := hb_4.ext K_283
          replace ho_27 := ho_27.ext K_283
          replace hO_78 := hO_78.ext K_283
          replace hO_232 := hO_232.ext K_283
          replace ho_270 := ho_270.ext K_283
          replace K0 := K0.ext K_283
          refine RL.st rfl <| St1.call (vals := [.slice (a_267) (((peersL TA.l).filter (fun x => !decide (x.node < 2))).length) (c_268), .slice (a_278) (((peersL TB.l).filter (fun x => !decide (x.node < 2))).length) (c_279)]) en25 rfl (equal_peer _ _ _ _ _ _ _ ho_270.sl ho_281.sl (by omega)) ?_
          rintro _ w_290 ⟨rfl, K_291⟩
          replace hb_4 := hb_4.ext K_291
          replace ho_27 := ho_27.ext K_291
          replace hO_78 := hO_78.ext K_291
          replace hO_232 := hO_232.ext K_291
          replace ho_270 := ho_270.ext K_291
          replace ho_281 := ho_281.ext K_291
          replace K0 := K0.ext K_291
          refine RL.val (x_assignB rfl) ?_
          refine RL.nil ?_
          refine Run.ret1 (v := .bool (decide ((peersL TA.l).filter (fun x => !decide (x.node < 2)) = (peersL TB.l).filter (fun x => !decide (x.node < 2))))) Try.func6 rfl rfl ?_
          exact ⟨_, rfl, congrArg Value.bool (decide_eq_true (alike_eq hO_78.ok hO_232.ok hKA hKB hin hRL)), K0⟩

end Go.Proofs.Ytagfdmdajmkddaa
