/-
  SwimNever.
-/
import Derived.Test.YtagfdmdajmkddaaRows
import Derived.Test.YtagfdmdajmkddaaLk
import Derived.Test.YtagfdmdajmkddaaFrame
namespace Go.Proofs.Ytagfdmdajmkddaa
attribute [local irreducible] St1 RL RA RT RT1 Run

open Sa
structure Nev (n : Int) (T : Tab) : Prop where
  self : T.self = n
  own : ∃ k, T.l[n.toNat]? = some k ∧ k.peer.status = 1
  far : ∀ p ∈ T.pings, p.target ≠ n
/-- what is known never becomes less -/
def Grow (A B : Tab) : Prop := ∀ (m : Nat) k, A.l[m]? = some k → k.peer.status ≠ 0 → ∃ k', B.l[m]? = some k' ∧ k'.peer.status ≠ 0 ∧ (k'.peer = k.peer ∨ greaterB k'.peer k.peer = true)
theorem Grow.refl (A : Tab) : Grow A A := fun _ k h hs => ⟨k, h, hs, .inl rfl⟩
theorem Grow.trans {A B C : Tab} (h : Grow A B) (h' : Grow B C) : Grow A C := by
  intro m k hk hs
  obtain ⟨k1, a1, a2, a3⟩ := h m k hk hs
  obtain ⟨k2, b1, b2, b3⟩ := h' m k1 a1 a2
  refine ⟨k2, b1, b2, ?_⟩
  rcases a3 with e | e
  · rw [← e]; exact b3
  · rcases b3 with e' | e'
    · rw [e']; exact .inr e
    · exact .inr (greater_trans e' e)
theorem grow_set {A B : Tab} {i : Nat} {k k' : KnownM} (hB : B.l = A.l.set i k') (hk : A.l[i]? = some k) (hs : k'.peer.status ≠ 0) (h : k.peer.status = 0 ∨ k'.peer = k.peer ∨ greaterB k'.peer k.peer = true) : Grow A B := by
  intro m q hq hqs
  have hi : i < A.l.length := (List.getElem?_eq_some_iff.1 hk).1
  rw [hB, List.getElem?_set]
  by_cases e : i = m
  · subst e
    rw [if_pos rfl, if_pos hi]
    rw [hk] at hq
    cases hq
    refine ⟨k', rfl, hs, ?_⟩
    rcases h with h | h
    · exact absurd h hqs
    · exact h
  · rw [if_neg e]
    exact ⟨q, hq, hqs, .inl rfl⟩
theorem own_set {A : Tab} {n : Int} {i : Nat} {k' : KnownM} (h : ∃ k, A.l[n.toNat]? = some k ∧ k.peer.status = 1) (hi : i ≠ n.toNat) : ∃ k, (A.l.set i k')[n.toNat]? = some k ∧ k.peer.status = 1 := by
  rw [List.getElem?_set_ne hi]; exact h
theorem nev_ownT {n : Int} {T : Tab} {p : Peer} (ok : TabOk T) (h : Nev n T) : Nev n (ownT T p).1 ∧ Grow T (ownT T p).1 := by
  obtain ⟨k, hk, hs⟩ := h.own
  have hk' : T.l[T.self.toNat]? = some k := by rw [h.self]; exact hk
  have hlen : n.toNat < T.l.length := (List.getElem?_eq_some_iff.1 hk).1
  have key : ∀ z, k.peer.inc ≤ z → Nev n { T with l := T.l.set T.self.toNat { k with peer := { k.peer with inc := z } } } ∧ Grow T { T with l := T.l.set T.self.toNat { k with peer := { k.peer with inc := z } } } := by
    intro z hz
    refine ⟨⟨h.self, ⟨{ k with peer := { k.peer with inc := z } }, ?_, hs⟩, h.far⟩, grow_set rfl hk' (by simp only; omega) ?_⟩
    · simp only [h.self]; rw [List.getElem?_set_self hlen]
    · refine .inr ?_
      by_cases e : z = k.peer.inc
      · subst e; exact .inl rfl
      · refine .inr ?_
        rw [greater_iff]
        exact ⟨rfl, .inl (by simp only; omega)⟩
  unfold ownT
  rw [hk']
  simp only
  split
  · exact key _ (by omega)
  · split
    · rename_i hc; exact key _ (by omega)
    · exact ⟨h, Grow.refl _⟩
def Contra (n : Int) (T : Tab) (p : Peer) : Prop := mayB p = true → p.node = n → p.status ≠ 1 → p.inc < 1099511627776 → ∃ k, T.l[n.toNat]? = some k ∧ p.inc < k.peer.inc
theorem contra_own {n : Int} {T : Tab} {p : Peer} (h : Nev n T) : Contra n (ownT T p).1 p := by
  intro hm hn hs hi
  obtain ⟨k, hk, hks⟩ := h.own
  have hk' : T.l[T.self.toNat]? = some k := by rw [h.self]; exact hk
  have hlen : n.toNat < T.l.length := (List.getElem?_eq_some_iff.1 hk).1
  by_cases hc : k.peer.inc ≤ p.inc
  · rw [own_more hk' hs ⟨hc, hi⟩]
    refine ⟨{ k with peer := { k.peer with inc := p.inc + 1 } }, ?_, by simp only; omega⟩
    simp only [h.self]; rw [List.getElem?_set_self hlen]
  · rw [own_no hk' hs (by omega)]
    exact ⟨k, hk, by omega⟩
theorem contra_grow {n : Int} {A B : Tab} {p : Peer} (hA : Contra n A p) (g : Grow A B) (nA : Nev n A) (nB : Nev n B) : Contra n B p := by
  intro hm hn hs hi
  obtain ⟨k, hk, hki⟩ := hA hm hn hs hi
  obtain ⟨k1, hk1, h1⟩ := nA.own
  rw [hk] at hk1; cases hk1
  obtain ⟨k', hk', _, h3⟩ := g _ k hk (by omega)
  obtain ⟨k2, hk2, h2⟩ := nB.own
  rw [hk'] at hk2; cases hk2
  refine ⟨k', hk', ?_⟩
  rcases h3 with e | e
  · rw [e]; exact hki
  · rw [greater_iff] at e; omega
theorem nev_hear {n : Int} {T : Tab} {l : List Peer} {t : Int} (ok : TabOk T) (h : Nev n T) (hn : 0 ≤ n ∧ n < 8) (ht : t ≤ 9223372036854775807) :
    Nev n (hear T l t).1 ∧ Grow T (hear T l t).1 ∧ (∀ p ∈ l, Contra n (hear T l t).1 p) ∧ (hear T l t).1.pings = T.pings := by
  have key : ∀ i, i ≤ l.length → (fun i (s : Tab × List Peer) => TabOk s.1 ∧ Nev n s.1 ∧ Grow T s.1 ∧ (∀ (j : Nat) p, j < i → l[j]? = some p → Contra n s.1 p) ∧ s.1.pings = T.pings) i (tf hear1 (passT T t, []) l i) := by
    refine tf_ind (fun i (s : Tab × List Peer) => TabOk s.1 ∧ Nev n s.1 ∧ Grow T s.1 ∧ (∀ (j : Nat) p, j < i → l[j]? = some p → Contra n s.1 p) ∧ s.1.pings = T.pings) ⟨passT_ok ok ht, ⟨h.self, h.own, h.far⟩, fun m k hk hs => ⟨k, hk, hs, .inl rfl⟩, fun j p hj => absurd hj (Nat.not_lt_zero _), rfl⟩ ?_
    intro i p s hx ⟨hok, hN, hG, hC, hP⟩
    have next : ∀ s' : Tab × List Peer, TabOk s'.1 → Nev n s'.1 → Grow s.1 s'.1 → Contra n s'.1 p → s'.1.pings = s.1.pings → TabOk s'.1 ∧ Nev n s'.1 ∧ Grow T s'.1 ∧ (∀ (j : Nat) q, j < i + 1 → l[j]? = some q → Contra n s'.1 q) ∧ s'.1.pings = T.pings := by
      intro s' a1 a2 a3 a4 a5
      refine ⟨a1, a2, hG.trans a3, ?_, a5.trans hP⟩
      intro j q hj hq
      by_cases e : j = i
      · subst e; rw [hx] at hq; cases hq; exact a4
      · exact contra_grow (hC j q (by omega) hq) a3 hN a2
    by_cases hm : mayB p = true
    · have hr := (may_range hm).1
      by_cases hns : p.node = s.1.self
      · rw [hear1_own hm hns]
        obtain ⟨b1, b2⟩ := nev_ownT (p := p) hok hN
        exact next _ (ownT_ok hok).1 b1 b2 (contra_own hN) (by
          simp only
          unfold ownT
          split
          · rfl
          · split
            · rfl
            · split <;> rfl)
      · obtain ⟨k, hk⟩ : ∃ k, s.1.l[p.node.toNat]? = some k := ⟨_, List.getElem?_eq_getElem (by have := hok.len; omega)⟩
        have hne : p.node ≠ n := by rw [← hN.self]; exact hns
        by_cases hg : k.peer.status = 0 ∨ greaterB p k.peer = true
        · rw [hear1_new hm hns hk hg]
          refine next _ (learnT_ok hok hr) ⟨hN.self, own_set hN.own (by omega), hN.far⟩ (grow_set rfl hk (by have := (may_range hm).2.2.2; simp only; omega) (hg.elim .inl (fun e => .inr (.inr e)))) (fun _ e => absurd e hne) rfl
        · rw [hear1_same hm hns hk hg]
          exact next _ hok hN (Grow.refl _) (fun _ e => absurd e hne) rfl
    · have hm' : mayB p = false := by simpa using hm
      rw [hear1_bad hm']
      exact next _ hok hN (Grow.refl _) (fun e => absurd e hm) rfl
  obtain ⟨_, h2, h3, h4, h5⟩ := key l.length (Nat.le_refl _)
  refine ⟨h2, h3, ?_, h5⟩
  intro p hp
  obtain ⟨j, hj, rfl⟩ := List.getElem_of_mem hp
  exact h4 j _ hj (by simp)
theorem nev_old {n : Int} {T : Tab} (ok : TabOk T) (h : Nev n T) : Nev n (oldT T).1 ∧ Grow T (oldT T).1 := by
  have key : ∀ i, (fun (_ : Nat) (s : Tab × List Peer) => TabOk s.1 ∧ Nev n s.1 ∧ Grow T s.1) i (rf old1 (T, []) i) := by
    refine rf_ind (fun (_ : Nat) (s : Tab × List Peer) => TabOk s.1 ∧ Nev n s.1 ∧ Grow T s.1) ⟨ok, h, Grow.refl _⟩ ?_
    rintro i s ⟨hok, hN, hG⟩
    unfold old1
    split
    · exact ⟨hok, hN, hG⟩
    · rename_i k hk
      split
      · rename_i hc
        have hkn := (hok.known i k hk).2.2 (by omega)
        have hi : i < 8 := by have := hok.len; rw [← this]; exact (List.getElem?_eq_some_iff.1 hk).1
        have hin : i ≠ n.toNat := by
          rintro rfl
          obtain ⟨k', a1, a2⟩ := hN.own
          rw [hk] at a1; cases a1
          omega
        have e : k.peer.node.toNat = i := by omega
        refine ⟨learnT_ok hok (by simp only; omega), ⟨hN.self, ?_, hN.far⟩, hG.trans ?_⟩
        · simp only [learnT]
          exact own_set hN.own (by omega)
        · refine grow_set (i := k.peer.node.toNat) rfl (by rw [e]; exact hk) (by simp) (.inr (.inr ?_))
          rw [greater_iff]
          exact ⟨rfl, .inr ⟨rfl, by simp only; omega⟩⟩
      · exact ⟨hok, hN, hG⟩
  exact (key 8).2
theorem nev_waited {n : Int} {T : Tab} (ok : TabOk T) (h : Nev n T) : Nev n (waitedT T).T ∧ Grow T (waitedT T).T := by
  have key : ∀ i, i ≤ T.pings.length → (fun (_ : Nat) (s : Wai) => TabOk s.T ∧ Nev n s.T ∧ Grow T s.T ∧ ∀ p ∈ s.left, p.target ≠ n) i (waiI T i) := by
    refine tf_ind (fun (_ : Nat) (s : Wai) => TabOk s.T ∧ Nev n s.T ∧ Grow T s.T ∧ ∀ p ∈ s.left, p.target ≠ n) ⟨ok, h, Grow.refl _, by simp⟩ ?_
    intro i x s hx ⟨hok, hN, hG, hL⟩
    have hp := ok.pings x (mem_of_at hx)
    have hf := h.far x (mem_of_at hx)
    have push : ∀ y : Ping, y.target = x.target → ∀ p ∈ s.left ++ [y], p.target ≠ n := by
      intro y hy p hp'
      rcases List.mem_append.1 hp' with hq | hq
      · exact hL p hq
      · simp only [List.mem_singleton] at hq; subst hq; rw [hy]; exact hf
    by_cases c1 : s.T.now - x.since < 50
    · rw [wai1_left c1]; exact ⟨hok, hN, hG, push x rfl⟩
    · cases c2 : x.others with
      | false => rw [wai1_ask c1 c2]; exact ⟨hok, hN, hG, push _ rfl⟩
      | true =>
        obtain ⟨k, hk⟩ : ∃ k, s.T.l[x.target.toNat]? = some k := ⟨_, List.getElem?_eq_getElem (by have := hok.len; omega)⟩
        by_cases c3 : k.peer.status = 1
        · rw [wai1_sus c1 c2 hk c3]
          have hkn := (hok.known _ k hk).2.2 (by omega)
          have hn0 : 0 ≤ n := by have := hok.self0; rw [hN.self] at this; exact this.1
          refine ⟨learnT_ok hok (by simp only; omega), ⟨hN.self, ?_, hN.far⟩, hG.trans ?_, hL⟩
          · simp only [learnT]
            exact own_set hN.own (by omega)
          · refine grow_set (i := k.peer.node.toNat) rfl (by rw [show k.peer.node.toNat = x.target.toNat by omega]; exact hk) (by simp) (.inr (.inr ?_))
            rw [greater_iff]
            exact ⟨rfl, .inr ⟨rfl, by simp only; omega⟩⟩
        · rw [wai1_no c1 c2 hk c3]; exact ⟨hok, hN, hG, hL⟩
  obtain ⟨_, h2, h3, h4⟩ := key T.pings.length (Nat.le_refl _)
  exact ⟨⟨h2.self, h2.own, h4⟩, h3⟩
theorem nev_begin {n : Int} {T : Tab} (h : Nev n T) : Nev n (beginT T).1 ∧ Grow T (beginT T).1 := by
  unfold beginT
  split
  · exact ⟨h, Grow.refl _⟩
  · split
    · exact ⟨h, Grow.refl _⟩
    · rename_i h2
      obtain ⟨k, _, _, h5, _⟩ := next_good (T := T) (by omega)
      refine ⟨⟨h.self, h.own, ?_⟩, Grow.refl T⟩
      intro p hp
      simp only at hp
      rcases List.mem_append.1 hp with hq | hq
      · exact h.far p hq
      · simp only [List.mem_singleton] at hq; subst hq; simp only; rw [← h.self]; exact h5
theorem nev_new {n : Int} (hn : 0 ≤ n ∧ n < 8) : Nev n (newT n) := by
  refine ⟨rfl, ⟨{ zk with peer := ⟨n, 0, 1⟩ }, ?_, rfl⟩, by simp [newT]⟩
  simp only [newT]
  rw [List.getElem?_set_self (by simp; omega)]
def DoOk (w : World) (o : DoC) : Prop := i64 o.now ∧ ∃ pl : List Peer, o.peers.len = pl.length ∧ SlOf w o.peers.a pl ∧ pl.length ≤ 1048576 ∧ ∀ x, o.peers.a = some x → x.block < w.heap.size ∨ pl = []
attribute [local irreducible] tick

theorem ty32 : Ty Try.prog 32 1 24 (.slice (none) (0) (0)) false := ty_of (by kernel_rfl) (by kernel_rfl)
theorem en30 : Enters Try.prog 30 := enters_of Try.func30 rfl (by kernel_rfl)
end Go.Proofs.Ytagfdmdajmkddaa
