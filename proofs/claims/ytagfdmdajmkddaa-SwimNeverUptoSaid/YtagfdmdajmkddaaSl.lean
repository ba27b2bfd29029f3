/-
  SwimNever.
-/
import Derived.Test.YtagfdmdajmkddaaRows
import Derived.Test.YtagfdmdajmkddaaSk
import Derived.Test.YtagfdmdajmkddaaFrame
namespace Go.Proofs.Ytagfdmdajmkddaa
attribute [local irreducible] St1 RL RA RT RT1 Run

open Sa
structure Nev (n : Int) (T : Tab) : Prop where
  self : T.self = n
  own : ∃ k, T.l[n.toNat]? = some k ∧ k.peer.status = 1
  far : ∀ p ∈ T.pings, p.target ≠ n
/-- what is known never becomes less -/
def Grow (A B : Tab) : Prop := ∀ (m : Nat) k, A.l[m]? = some k → k.peer.status ≠ 0 → ∃ k', B.l[m]? = some k' ∧ k'.peer.status ≠ 0 ∧ (k'.peer = k.peer ∨ greaterB k'.peer k.peer = true)
theorem Grow.refl (A : Tab) : Grow A A := fun _ k h hs => ⟨k, h, hs, .inl rfl⟩
theorem Grow.trans {A B C : Tab} (h : Grow A B) (h' : Grow B C) : Grow A C := by
  intro m k hk hs
  obtain ⟨k1, a1, a2, a3⟩ := h m k hk hs
  obtain ⟨k2, b1, b2, b3⟩ := h' m k1 a1 a2
  refine ⟨k2, b1, b2, ?_⟩
  rcases a3 with e | e
  · rw [← e]; exact b3
  · rcases b3 with e' | e'
    · rw [e']; exact .inr e
    · exact .inr (greater_trans e' e)
theorem grow_set {A B : Tab} {i : Nat} {k k' : KnownM} (hB : B.l = A.l.set i k') (hk : A.l[i]? = some k) (hs : k'.peer.status ≠ 0) (h : k.peer.status = 0 ∨ k'.peer = k.peer ∨ greaterB k'.peer k.peer = true) : Grow A B := by
  intro m q hq hqs
  have hi : i < A.l.length := (List.getElem?_eq_some_iff.1 hk).1
  rw [hB, List.getElem?_set]
  by_cases e : i = m
  · subst e
    rw [if_pos rfl, if_pos hi]
    rw [hk] at hq
    cases hq
    refine ⟨k', rfl, hs, ?_⟩
    rcases h with h | h
    · exact absurd h hqs
    · exact h
  · rw [if_neg e]
    exact ⟨q, hq, hqs, .inl rfl⟩
theorem own_set {A : Tab} {n : Int} {i : Nat} {k' : KnownM} (h : ∃ k, A.l[n.toNat]? = some k ∧ k.peer.status = 1) (hi : i ≠ n.toNat) : ∃ k, (A.l.set i k')[n.toNat]? = some k ∧ k.peer.status = 1 := by
  rw [List.getElem?_set_ne hi]; exact h
theorem nev_ownT {n : Int} {T : Tab} {p : Peer} (ok : TabOk T) (h : Nev n T) : Nev n (ownT T p).1 ∧ Grow T (ownT T p).1 := by
  obtain ⟨k, hk, hs⟩ := h.own
  have hk' : T.l[T.self.toNat]? = some k := by rw [h.self]; exact hk
  have hlen : n.toNat < T.l.length := (List.getElem?_eq_some_iff.1 hk).1
  have key : ∀ z, k.peer.inc ≤ z → Nev n { T with l := T.l.set T.self.toNat { k with peer := { k.peer with inc := z } } } ∧ Grow T { T with l := T.l.set T.self.toNat { k with peer := { k.peer with inc := z } } } := by
    intro z hz
    refine ⟨⟨h.self, ⟨{ k with peer := { k.peer with inc := z } }, ?_, hs⟩, h.far⟩, grow_set rfl hk' (by simp only; omega) ?_⟩
    · simp only [h.self]; rw [List.getElem?_set_self hlen]
    · refine .inr ?_
      by_cases e : z = k.peer.inc
      · subst e; exact .inl rfl
      · refine .inr ?_
        rw [greater_iff]
        exact ⟨rfl, .inl (by simp only; omega)⟩
  unfold ownT
  rw [hk']
  simp only
  split
  · exact key _ (by omega)
  · split
    · rename_i hc; exact key _ (by omega)
    · exact ⟨h, Grow.refl _⟩
def Contra (n : Int) (T : Tab) (p : Peer) : Prop := mayB p = true → p.node = n → p.status ≠ 1 → p.inc < 1099511627776 → ∃ k, T.l[n.toNat]? = some k ∧ p.inc < k.peer.inc
theorem contra_own {n : Int} {T : Tab} {p : Peer} (h : Nev n T) : Contra n (ownT T p).1 p := by
  intro hm hn hs hi
  obtain ⟨k, hk, hks⟩ := h.own
  have hk' : T.l[T.self.toNat]? = some k := by rw [h.self]; exact hk
  have hlen : n.toNat < T.l.length := (List.getElem?_eq_some_iff.1 hk).1
  by_cases hc : k.peer.inc ≤ p.inc
  · rw [own_more hk' hs ⟨hc, hi⟩]
    refine ⟨{ k with peer := { k.peer with inc := p.inc + 1 } }, ?_, by simp only; omega⟩
    simp only [h.self]; rw [List.getElem?_set_self hlen]
  · rw [own_no hk' hs (by omega)]
    exact ⟨k, hk, by omega⟩
theorem contra_grow {n : Int} {A B : Tab} {p : Peer} (hA : Contra n A p) (g : Grow A B) (nA : Nev n A) (nB : Nev n B) : Contra n B p := by
  intro hm hn hs hi
  obtain ⟨k, hk, hki⟩ := hA hm hn hs hi
  obtain ⟨k1, hk1, h1⟩ := nA.own
  rw [hk] at hk1; cases hk1
  obtain ⟨k', hk', _, h3⟩ := g _ k hk (by omega)
  obtain ⟨k2, hk2, h2⟩ := nB.own
  rw [hk'] at hk2; cases hk2
  refine ⟨k', hk', ?_⟩
  rcases h3 with e | e
  · rw [e]; exact hki
  · rw [greater_iff] at e; omega
theorem nev_hear {n : Int} {T : Tab} {l : List Peer} {t : Int} (ok : TabOk T) (h : Nev n T) (hn : 0 ≤ n ∧ n < 8) (ht : t ≤ 9223372036854775807) :
    Nev n (hear T l t).1 ∧ Grow T (hear T l t).1 ∧ (∀ p ∈ l, Contra n (hear T l t).1 p) ∧ (hear T l t).1.pings = T.pings := by
  have key : ∀ i, i ≤ l.length → (fun i (s : Tab × List Peer) => TabOk s.1 ∧ Nev n s.1 ∧ Grow T s.1 ∧ (∀ (j : Nat) p, j < i → l[j]? = some p → Contra n s.1 p) ∧ s.1.pings = T.pings) i (tf hear1 (passT T t, []) l i) := by
    refine tf_ind (fun i (s : Tab × List Peer) => TabOk s.1 ∧ Nev n s.1 ∧ Grow T s.1 ∧ (∀ (j : Nat) p, j < i → l[j]? = some p → Contra n s.1 p) ∧ s.1.pings = T.pings) ⟨passT_ok ok ht, ⟨h.self, h.own, h.far⟩, fun m k hk hs => ⟨k, hk, hs, .inl rfl⟩, fun j p hj => absurd hj (Nat.not_lt_zero _), rfl⟩ ?_
    intro i p s hx ⟨hok, hN, hG, hC, hP⟩
    have next : ∀ s' : Tab × List Peer, TabOk s'.1 → Nev n s'.1 → Grow s.1 s'.1 → Contra n s'.1 p → s'.1.pings = s.1.pings → TabOk s'.1 ∧ Nev n s'.1 ∧ Grow T s'.1 ∧ (∀ (j : Nat) q, j < i + 1 → l[j]? = some q → Contra n s'.1 q) ∧ s'.1.pings = T.pings := by
      intro s' a1 a2 a3 a4 a5
      refine ⟨a1, a2, hG.trans a3, ?_, a5.trans hP⟩
      intro j q hj hq
      by_cases e : j = i
      · subst e; rw [hx] at hq; cases hq; exact a4
      · exact contra_grow (hC j q (by omega) hq) a3 hN a2
    by_cases hm : mayB p = true
    · have hr := (may_range hm).1
      by_cases hns : p.node = s.1.self
      · rw [hear1_own hm hns]
        obtain ⟨b1, b2⟩ := nev_ownT (p := p) hok hN
        exact next _ (ownT_ok hok).1 b1 b2 (contra_own hN) (by
          simp only
          unfold ownT
          split
          · rfl
          · split
            · rfl
            · split <;> rfl)
      · obtain ⟨k, hk⟩ : ∃ k, s.1.l[p.node.toNat]? = some k := ⟨_, List.getElem?_eq_getElem (by have := hok.len; omega)⟩
        have hne : p.node ≠ n := by rw [← hN.self]; exact hns
        by_cases hg : k.peer.status = 0 ∨ greaterB p k.peer = true
        · rw [hear1_new hm hns hk hg]
          refine next _ (learnT_ok hok hr) ⟨hN.self, own_set hN.own (by omega), hN.far⟩ (grow_set rfl hk (by have := (may_range hm).2.2.2; simp only; omega) (hg.elim .inl (fun e => .inr (.inr e)))) (fun _ e => absurd e hne) rfl
        · rw [hear1_same hm hns hk hg]
          exact next _ hok hN (Grow.refl _) (fun _ e => absurd e hne) rfl
    · have hm' : mayB p = false := by simpa using hm
      rw [hear1_bad hm']
      exact next _ hok hN (Grow.refl _) (fun e => absurd e hm) rfl
  obtain ⟨_, h2, h3, h4, h5⟩ := key l.length (Nat.le_refl _)
  refine ⟨h2, h3, ?_, h5⟩
  intro p hp
  obtain ⟨j, hj, rfl⟩ := List.getElem_of_mem hp
  exact h4 j _ hj (by simp)
theorem nev_old {n : Int} {T : Tab} (ok : TabOk T) (h : Nev n T) : Nev n (oldT T).1 ∧ Grow T (oldT T).1 := by
  have key : ∀ i, (fun (_ : Nat) (s : Tab × List Peer) => TabOk s.1 ∧ Nev n s.1 ∧ Grow T s.1) i (rf old1 (T, []) i) := by
    refine rf_ind (fun (_ : Nat) (s : Tab × List Peer) => TabOk s.1 ∧ Nev n s.1 ∧ Grow T s.1) ⟨ok, h, Grow.refl _⟩ ?_
    rintro i s ⟨hok, hN, hG⟩
    unfold old1
    split
    · exact ⟨hok, hN, hG⟩
    · rename_i k hk
      split
      · rename_i hc
        have hkn := (hok.known i k hk).2.2 (by omega)
        have hi : i < 8 := by have := hok.len; rw [← this]; exact (List.getElem?_eq_some_iff.1 hk).1
        have hin : i ≠ n.toNat := by
          rintro rfl
          obtain ⟨k', a1, a2⟩ := hN.own
          rw [hk] at a1; cases a1
          omega
        have e : k.peer.node.toNat = i := by omega
        refine ⟨learnT_ok hok (by simp only; omega), ⟨hN.self, ?_, hN.far⟩, hG.trans ?_⟩
        · simp only [learnT]
          exact own_set hN.own (by omega)
        · refine grow_set (i := k.peer.node.toNat) rfl (by rw [e]; exact hk) (by simp) (.inr (.inr ?_))
          rw [greater_iff]
          exact ⟨rfl, .inr ⟨rfl, by simp only; omega⟩⟩
      · exact ⟨hok, hN, hG⟩
  exact (key 8).2
theorem nev_waited {n : Int} {T : Tab} (ok : TabOk T) (h : Nev n T) : Nev n (waitedT T).T ∧ Grow T (waitedT T).T := by
  have key : ∀ i, i ≤ T.pings.length → (fun (_ : Nat) (s : Wai) => TabOk s.T ∧ Nev n s.T ∧ Grow T s.T ∧ ∀ p ∈ s.left, p.target ≠ n) i (waiI T i) := by
    refine tf_ind (fun (_ : Nat) (s : Wai) => TabOk s.T ∧ Nev n s.T ∧ Grow T s.T ∧ ∀ p ∈ s.left, p.target ≠ n) ⟨ok, h, Grow.refl _, by simp⟩ ?_
    intro i x s hx ⟨hok, hN, hG, hL⟩
    have hp := ok.pings x (mem_of_at hx)
    have hf := h.far x (mem_of_at hx)
    have push : ∀ y : Ping, y.target = x.target → ∀ p ∈ s.left ++ [y], p.target ≠ n := by
      intro y hy p hp'
      rcases List.mem_append.1 hp' with hq | hq
      · exact hL p hq
      · simp only [List.mem_singleton] at hq; subst hq; rw [hy]; exact hf
    by_cases c1 : s.T.now - x.since < 50
    · rw [wai1_left c1]; exact ⟨hok, hN, hG, push x rfl⟩
    · cases c2 : x.others with
      | false => rw [wai1_ask c1 c2]; exact ⟨hok, hN, hG, push _ rfl⟩
      | true =>
        obtain ⟨k, hk⟩ : ∃ k, s.T.l[x.target.toNat]? = some k := ⟨_, List.getElem?_eq_getElem (by have := hok.len; omega)⟩
        by_cases c3 : k.peer.status = 1
        · rw [wai1_sus c1 c2 hk c3]
          have hkn := (hok.known _ k hk).2.2 (by omega)
          have hn0 : 0 ≤ n := by have := hok.self0; rw [hN.self] at this; exact this.1
          refine ⟨learnT_ok hok (by simp only; omega), ⟨hN.self, ?_, hN.far⟩, hG.trans ?_, hL⟩
          · simp only [learnT]
            exact own_set hN.own (by omega)
          · refine grow_set (i := k.peer.node.toNat) rfl (by rw [show k.peer.node.toNat = x.target.toNat by omega]; exact hk) (by simp) (.inr (.inr ?_))
            rw [greater_iff]
            exact ⟨rfl, .inr ⟨rfl, by simp only; omega⟩⟩
        · rw [wai1_no c1 c2 hk c3]; exact ⟨hok, hN, hG, hL⟩
  obtain ⟨_, h2, h3, h4⟩ := key T.pings.length (Nat.le_refl _)
  exact ⟨⟨h2.self, h2.own, h4⟩, h3⟩
theorem nev_begin {n : Int} {T : Tab} (h : Nev n T) : Nev n (beginT T).1 ∧ Grow T (beginT T).1 := by
  unfold beginT
  split
  · exact ⟨h, Grow.refl _⟩
  · split
    · exact ⟨h, Grow.refl _⟩
    · rename_i h2
      obtain ⟨k, _, _, h5, _⟩ := next_good (T := T) (by omega)
      refine ⟨⟨h.self, h.own, ?_⟩, Grow.refl T⟩
      intro p hp
      simp only at hp
      rcases List.mem_append.1 hp with hq | hq
      · exact h.far p hq
      · simp only [List.mem_singleton] at hq; subst hq; simp only; rw [← h.self]; exact h5
theorem nev_tick {n : Int} {T : Tab} {t : Int} (ok : TabOk T) (h : Nev n T) (ht : t ≤ 9223372036854775807) : Nev n (tick T t).T ∧ Grow T (tick T t).T := by
  rw [tick_T]
  have h0 : Nev n (passT T t) := ⟨h.self, h.own, h.far⟩
  have g0 : Grow T (passT T t) := fun m k hk hs => ⟨k, hk, hs, .inl rfl⟩
  have ok1 := passT_ok ok ht
  obtain ⟨a1, a2⟩ := nev_old ok1 h0
  have ok2 := (oldT_ok ok1).1
  obtain ⟨b1, b2⟩ := nev_waited ok2 a1
  obtain ⟨c1, c2⟩ := nev_begin b1
  exact ⟨c1, g0.trans (a2.trans (b2.trans c2))⟩
theorem nev_on {n : Int} {T : Tab} {m : MsgC} {t : Int} (ok : TabOk T) (h : Nev n T) (hn : 0 ≤ n ∧ n < 8) : Nev n (on T m t).T ∧ Grow T (on T m t).T := by
  have h0 : Nev n (passT T t) := ⟨h.self, h.own, h.far⟩
  have g0 : Grow T (passT T t) := fun m k hk hs => ⟨k, hk, hs, .inl rfl⟩
  by_cases hc : (((m.kind ≠ 6 ∧ m.kind ≠ 7) ∨ m.frm < 0) ∨ 8 ≤ m.frm) ∨ m.frm = T.self
  · rw [on_no hc]; exact ⟨h0, g0⟩
  · have hfn : m.frm ≠ n := by rw [← h.self]; omega
    have hmeet : Nev n (meetT (passT T t) m.frm).1 ∧ Grow (passT T t) (meetT (passT T t) m.frm).1 := by
      unfold meetT
      split
      · exact ⟨h0, Grow.refl _⟩
      · rename_i k hk
        split
        · rename_i hs
          exact ⟨⟨h0.self, own_set h0.own (by simp only; omega), h0.far⟩, grow_set rfl hk (by simp) (.inl hs)⟩
        · exact ⟨h0, Grow.refl _⟩
    by_cases h6 : m.kind = 6
    · rw [on_ping hc h6]; exact ⟨hmeet.1, g0.trans hmeet.2⟩
    · rw [on_pong hc h6]
      have hp : Nev n (pongedT (meetT (passT T t) m.frm).1 m).1 ∧ Grow (meetT (passT T t) m.frm).1 (pongedT (meetT (passT T t) m.frm).1 m).1 := by
        unfold pongedT
        split
        · exact ⟨⟨hmeet.1.self, hmeet.1.own, fun p hp => hmeet.1.far p (List.mem_filter.1 hp).1⟩, Grow.refl (meetT (passT T t) m.frm).1⟩
        · split
          · exact ⟨hmeet.1, Grow.refl _⟩
          · exact ⟨hmeet.1, Grow.refl _⟩
      exact ⟨hp.1, g0.trans (hmeet.2.trans hp.2)⟩
theorem mem_peers {l : List KnownM} {p : Peer} (h : p ∈ peersL l) : ∃ (m : Nat) (k : KnownM), l[m]? = some k ∧ k.peer.status ≠ 0 ∧ k.peer = p := by
  simp only [peersL, List.mem_map, List.mem_filter] at h
  obtain ⟨k, ⟨hk, hs⟩, rfl⟩ := h
  obtain ⟨m, hm, rfl⟩ := List.getElem_of_mem hk
  exact ⟨m, l[m], by simp, by simpa using hs, rfl⟩
theorem peers_mem {l : List KnownM} {m : Nat} {k : KnownM} (h : l[m]? = some k) (hs : k.peer.status ≠ 0) : k.peer ∈ peersL l := by
  simp only [peersL, List.mem_map, List.mem_filter]
  exact ⟨k, ⟨List.mem_of_getElem? h, by simpa using hs⟩, rfl⟩
theorem peers_one {T : Tab} (ok : TabOk T) {m : Nat} {k : KnownM} (hk : T.l[m]? = some k) {x : Peer} (hx : x ∈ peersL T.l) (hn : x.node = (m : Int)) : x = k.peer := by
  obtain ⟨m', k', h1, h2, rfl⟩ := mem_peers hx
  have := (ok.known m' k' h1).2.2 h2
  have e : m' = m := by omega
  subst e
  rw [hk] at h1; cases h1; rfl
theorem find_yes {xs : List Peer} {n : Int} {p : Peer} (h : p ∈ xs) (hn : p.node = n) : 0 ≤ findI (fun x => x.node == n) xs := by
  have h1 := findI_ge (fun x : Peer => x.node == n) xs
  have h2 : xs.any (fun x => x.node == n) = true := List.any_eq_true.2 ⟨p, h, by simpa using hn⟩
  rw [h2] at h1
  simpa using h1
theorem never_one {A B : Tab} (okA : TabOk A) (okB : TabOk B) (g : Grow A B) {p : Peer} (hp : p ∈ peersL A.l) : 0 ≤ findI (fun x => x.node == p.node) (peersL B.l) ∧ ∀ x ∈ peersL B.l, x.node = p.node → x = p ∨ greaterB x p = true := by
  obtain ⟨m, k, h1, h2, rfl⟩ := mem_peers hp
  have hn := (okA.known m k h1).2.2 h2
  obtain ⟨k', a1, a2, a3⟩ := g m k h1 h2
  have hn' := (okB.known m k' a1).2.2 a2
  refine ⟨find_yes (peers_mem a1 a2) (by omega), ?_⟩
  intro x hx hxn
  rw [peers_one okB a1 hx (by omega)]
  exact a3
theorem never_self {n : Int} {T : Tab} (ok : TabOk T) (h : Nev n T) (hn : 0 ≤ n ∧ n < 8) : 0 ≤ findI (fun x => x.node == n) (peersL T.l) ∧ statusL T.l n = 1 := by
  obtain ⟨k, h1, h2⟩ := h.own
  have hk := (ok.known _ k h1).2.2 (by omega)
  exact ⟨find_yes (peers_mem h1 (by omega)) (by omega), by rw [statusL_at hn h1]; exact h2⟩
theorem never_contra {n : Int} {T : Tab} {p x : Peer} (ok : TabOk T) (hn : 0 ≤ n ∧ n < 8) (hc : Contra n T p) (hx : x ∈ peersL T.l) (hxn : x.node = n) (h : (((mayB p = true ∧ p.node = n) ∧ ¬ p.status = 1) ∧ p.inc < 1099511627776) ∧ greaterB x p = false) : False := by
  obtain ⟨⟨⟨⟨h1, h2⟩, h3⟩, h4⟩, h5⟩ := h
  obtain ⟨k, hk, hi⟩ := hc h1 h2 h3 h4
  have e := peers_one ok hk hx (by omega)
  rw [greater_not] at h5
  subst e
  omega
theorem nev_new {n : Int} (hn : 0 ≤ n ∧ n < 8) : Nev n (newT n) := by
  refine ⟨rfl, ⟨{ zk with peer := ⟨n, 0, 1⟩ }, ?_, rfl⟩, by simp [newT]⟩
  simp only [newT]
  rw [List.getElem?_set_self (by simp; omega)]
def DoOk (w : World) (o : DoC) : Prop := i64 o.now ∧ ∃ pl : List Peer, o.peers.len = pl.length ∧ SlOf w o.peers.a pl ∧ pl.length ≤ 1048576 ∧ ∀ x, o.peers.a = some x → x.block < w.heap.size ∨ pl = []
attribute [local irreducible] tick

theorem ty32 : Ty Try.prog 32 1 24 (.slice (none) (0) (0)) false := ty_of (by kernel_rfl) (by kernel_rfl)
theorem en29 : Enters Try.prog 29 := enters_of Try.func29 rfl (by kernel_rfl)
theorem en30 : Enters Try.prog 30 := enters_of Try.func30 rfl (by kernel_rfl)
theorem en31 : Enters Try.prog 31 := enters_of Try.func31 rfl (by kernel_rfl)

set_option maxRecDepth 100000 in
set_option maxHeartbeats 4000000 in
theorem nev1 (p : Peer) (bn : Nat) (n : Int) (w : World) (hbn : Blk w bn [.int .i64 n] 3) :
    Calls Try.prog 29 #[.agg #[.int .i64 ((p).node), .int .i64 ((p).inc), .int .i64 ((p).status)], .pointer (some ⟨bn, 0, none⟩)] w (Ret (fun v w' => v = .bool (p.node == n) ∧ Ext w w')) := by
  refine calls_run (n := 8) Try.func29 rfl rfl rfl ?_
  refine Run.seq ?_
  refine Run.region ?_
  refine RL.st rfl <| St1.box (v := .agg #[.int .i64 ((p).node), .int .i64 ((p).inc), .int .i64 ((p).status)]) rfl ?_
  intro b_1 w_2 hl_5 hb_4 K_3
  replace hb_4 : Blk w_2 b_1 [.int .i64 ((p).node), .int .i64 ((p).inc), .int .i64 ((p).status)] 23 := hb_4
  have ne_6 : bn < b_1 := Nat.lt_of_lt_of_le hbn.lt hl_5
  have : w.heap.size ≤ b_1 := hl_5
  clear hl_5
  replace hbn := hbn.ext K_3
  have K0 := (K_3 : Ext w _)
  refine RL.val (x_assignB rfl) ?_
  refine RL.nil ?_
  refine Run.seq ?_
  refine Run.region ?_
  refine RL.val (x_fld (o' := 0) Try.underlying23 rfl ty3 rfl rfl rfl) ?_
  refine RL.val (x_ld (v := .int .i64 ((p).node)) ty3 rfl rfl (hb_4.cl.field (i := 0) rfl)) ?_
  refine RL.val (x_ld (v := .int .i64 (n)) ty3 rfl rfl (hbn.cl.field (i := 0) rfl)) ?_
  refine RL.val (x_eqI rfl rfl) ?_
  refine RL.val (x_assignB rfl) ?_
  refine RL.nil ?_
  refine Run.ret1 (v := .bool (((p).node) == n)) Try.func29 rfl rfl ?_
  exact ⟨_, rfl, rfl, K0⟩

set_option maxRecDepth 100000 in
set_option maxHeartbeats 4000000 in
theorem nev2 (q : Peer) (bp : Nat) (p : Peer) (w : World) (hbp : Blk w bp [.int .i64 ((p).node), .int .i64 ((p).inc), .int .i64 ((p).status)] 23) :
    Calls Try.prog 31 #[.agg #[.int .i64 ((q).node), .int .i64 ((q).inc), .int .i64 ((q).status)], .pointer (some ⟨bp, 0, none⟩)] w (Ret (fun v w' => v = .bool (q.node == p.node) ∧ Ext w w')) := by
  refine calls_run (n := 9) Try.func31 rfl rfl rfl ?_
  refine Run.seq ?_
  refine Run.region ?_
  refine RL.st rfl <| St1.box (v := .agg #[.int .i64 ((q).node), .int .i64 ((q).inc), .int .i64 ((q).status)]) rfl ?_
  intro b_1 w_2 hl_5 hb_4 K_3
  replace hb_4 : Blk w_2 b_1 [.int .i64 ((q).node), .int .i64 ((q).inc), .int .i64 ((q).status)] 23 := hb_4
  have ne_6 : bp < b_1 := Nat.lt_of_lt_of_le hbp.lt hl_5
  have : w.heap.size ≤ b_1 := hl_5
  clear hl_5
  replace hbp := hbp.ext K_3
  have K0 := (K_3 : Ext w _)
  refine RL.val (x_assignB rfl) ?_
  refine RL.nil ?_
  refine Run.seq ?_
  refine Run.region ?_
  refine RL.val (x_fld (o' := 0) Try.underlying23 rfl ty3 rfl rfl rfl) ?_
  refine RL.val (x_ld (v := .int .i64 ((q).node)) ty3 rfl rfl (hb_4.cl.field (i := 0) rfl)) ?_
  refine RL.val (x_fld (o' := 0) Try.underlying23 rfl ty3 rfl rfl rfl) ?_
  refine RL.val (x_ld (v := .int .i64 ((p).node)) ty3 rfl rfl (hbp.cl.field (i := 0) rfl)) ?_
  refine RL.val (x_eqI rfl rfl) ?_
  refine RL.val (x_assignB rfl) ?_
  refine RL.nil ?_
  refine Run.ret1 (v := .bool (((q).node) == ((p).node))) Try.func31 rfl rfl ?_
  exact ⟨_, rfl, rfl, K0⟩

set_option maxRecDepth 100000 in
set_option maxHeartbeats 4000000 in
theorem law_never (n : Int) (as0 : Option Addr) (script : List DoC) (cs0 : Nat) (w : World) (h0 : SlOf w as0 script) (hl0 : script.length ≤ 1048576) (hq : ∀ o ∈ script, DoOk w o) (hn : 0 ≤ n ∧ n < 8) :
    Calls Try.prog 9 #[.int .i64 (n), .slice (as0) (script.length) (cs0)] w (Ret (fun v w' => v = .bool true ∧ Ext w w')) := by
  refine calls_run (n := 152) Try.func9 rfl rfl rfl ?_
  refine Run.seq ?_
  refine Run.region ?_
  refine RL.st rfl <| St1.box (v := .int .i64 (n)) rfl ?_
  intro b_1 w_2 hl_5 hb_4 K_3
  replace hb_4 : Blk w_2 b_1 [.int .i64 (n)] 3 := hb_4
  have : w.heap.size ≤ b_1 := hl_5
  clear hl_5
  have K0 := (K_3 : Ext w _)
  refine RL.val (x_assignB rfl) ?_
  refine RL.nil ?_
  refine Run.seq ?_
  refine Run.region ?_
  refine RL.val (x_ld (v := .int .i64 (n)) ty3 rfl rfl (hb_4.cl.field (i := 0) rfl)) ?_
  refine RL.st rfl <| St1.call (vals := [.int .i64 (n)]) en14 rfl (new_ n _) ?_
  rintro _ w_7 (⟨hbad_11, _, _⟩ | ⟨b_6, _, rfl, hT_8, hg_9, K_10⟩)
  · exact absurd hbad_11 (by omega)
  have pr_12 : ¬ tabS b_6 none b_1 := notNew (tabS_new hg_9) hb_4.lt
  have pg_13 : ∀ q_, tabS b_6 none q_ → w.heap.size ≤ q_ := fun q_ h => Nat.le_trans K0.size ((tabS_new hg_9) q_ h)
  clear hg_9
  replace hb_4 := hb_4.ext K_10
  replace K0 := K0.ext K_10
  refine RL.val (x_moveT rfl) ?_
  refine RL.val (x_extract rfl rfl) ?_
  refine RL.val (x_extract rfl rfl) ?_
  refine RL.val (x_assignP rfl) ?_
  refine RL.val (x_assignI rfl) ?_
  refine RL.nil ?_
  refine Run.seq ?_
  refine Run.seq ?_
  refine Run.region ?_
  refine RL.val (x_moveP rfl) ?_
  refine RL.val (litF (x_ptrNil Try.underlying28 rfl rfl) rfl) ?_
  refine RL.val (x_moveB rfl) ?_
  refine RL.gst (wantedF1 rfl rfl rfl rfl) <| St1.call (vals := []) en13 rfl (awake_ _) ?_
  rintro _ w_14 ⟨rfl, K_15⟩
  replace hb_4 := hb_4.ext K_15
  replace hT_8 := hT_8.ext K_15
  replace K0 := K0.ext K_15
  refine RL.gst (wantedF1 rfl rfl rfl rfl) <| St1.val (x_not rfl) ?_
  refine RL.val (x_orF rfl rfl rfl) ?_
  refine RL.nil ?_
  refine Run.condF rfl ?_
  refine Run.skip ?_
  refine Run.seq ?_
  refine Run.seq ?_
  refine Run.region ?_
  refine RL.val (x_moveSl rfl) ?_
  refine RL.val (x_lenSl Try.underlying75 rfl) ?_
  refine RL.val (x_moveI rfl) ?_
  refine RL.nil ?_
  refine Run.block ?_
  refine Run.loop (ι := Nat) (fun i ρ' w' => ∃ T : Tab, ∃ alb : Option Addr, ∃ clb : Nat, Holds ρ' [(2, .pointer (some ⟨b_1, 0, none⟩)), (5, .pointer (some ⟨b_6, 0, none⟩)), (33, .slice (as0) (script.length) (cs0)), (34, .int .i64 (((script.length : Nat) : Int))), (35, .int .i64 (((i : Nat) : Int)))] ∧ Ext w w' ∧ (Blk w' b_1 [.int .i64 (n)] 3) ∧ (TabAt w' b_6 alb clb T) ∧ (¬ tabS b_6 alb b_1) ∧ (∀ q_, tabS b_6 alb q_ → w.heap.size ≤ q_) ∧ (i ≤ script.length) ∧ (Nev n T) ∧ (T.pings.length ≤ i)) (fun i => script.length - i) 0 ?_ ?_
  · refine ⟨_, _, _, ⟨rfl, rfl, rfl, rfl, rfl, trivial⟩, K0, hb_4, hT_8, pr_12, pg_13, ?_, ?_, ?_⟩
    · omega
    · exact nev_new hn
    · simp [newT]
  clear hb_4 hT_8
  clear K0
  rintro i ρ_21 w_16 ⟨T, alb, clb, hH_17, K0, hb_4, hO_18, pr_19, pr_20, hi, hN, hpi⟩ ih1
  obtain ⟨ρ₀, rfl⟩ := hH_17.ex
  clear hH_17
  refine Run.seq ?_
  refine Run.region ?_
  refine RL.val (x_ltI rfl rfl) ?_
  refine RL.nil ?_
  refine Run.seq ?_
  refine Run.cond rfl (fun hc36 => ?_) (fun hc36 => ?_)
  · try simp only [br] at hc36
    refine Run.skip ?_
    refine Run.seq ?_
    refine Run.block ?_
    refine Run.seq ?_
    refine Run.region ?_
    refine RL.val (x_moveI rfl) ?_
    obtain ⟨b_22, o_23, o, hxo, ha_24, hc_25⟩ := h0.el (i := i) (by first | omega | (simp only [List.length_set]; omega))
    have hc_25_lt := hc_25.lt
    replace hc_25 := hc_25.ext K0
    refine RL.val (x_idxN Try.underlying75 ty65 rfl rfl ha_24 (by first | omega | (simp only [List.length_set]; omega))) ?_
    refine RL.val (x_ldV (v := .agg #[.int .i64 ((o).op), .int .i64 ((o).now), .slice ((o).peers.a) ((o).peers.len) ((o).peers.cap), .int .i64 ((o).kind), .int .i64 ((o).frm), .int .i64 ((o).req), .int .i64 ((o).owner), .int .i64 ((o).n)]) (y := o) ty65 rfl hc_25 rfl) ?_
    refine RL.st rfl <| St1.alloc ty65 ?_
    intro b_28 w_29 hl_32 hb_31 K_30
    replace hb_31 : Blk w_29 b_28 [.int .i64 (0), .int .i64 (0), .slice (none) (0) (0), .int .i64 (0), .int .i64 (0), .int .i64 (0), .int .i64 (0), .int .i64 (0)] 65 := hb_31
    have ne_33 : b_1 < b_28 := Nat.lt_of_lt_of_le hb_4.lt hl_32
    have ne_34 : b_22 < b_28 := Nat.lt_of_lt_of_le hc_25.lt hl_32
    have pr_35 : ¬ tabS b_6 alb b_28 := fun h => absurd (hO_18.own_lt _ h) (by omega)
    have : w.heap.size ≤ b_28 := Nat.le_trans K0.size hl_32
    clear hl_32
    replace hb_4 := hb_4.ext K_30
    replace hO_18 := hO_18.ext K_30
    replace hc_25 := hc_25.ext K_30
    replace K0 := K0.ext K_30
    refine RL.val (x_assignI rfl) ?_
    refine RL.st rfl <| St1.store (v := .agg #[.int .i64 ((o).op), .int .i64 ((o).now), .slice ((o).peers.a) ((o).peers.len) ((o).peers.cap), .int .i64 ((o).kind), .int .i64 ((o).frm), .int .i64 ((o).req), .int .i64 ((o).owner), .int .i64 ((o).n)]) ty65 rfl rfl rfl (by simp [Value.cells, Value.oneCell']) hb_31 (by simp) ?_
    intro w_36 hb_31_ K_37
    have hb_31' : Blk w_36 b_28 [.int .i64 ((o).op), .int .i64 ((o).now), .slice ((o).peers.a) ((o).peers.len) ((o).peers.cap), .int .i64 ((o).kind), .int .i64 ((o).frm), .int .i64 ((o).req), .int .i64 ((o).owner), .int .i64 ((o).n)] 65 := hb_31_
    clear hb_31_
    replace hb_4 := hb_4.keep K_37 (by simp only [one]; omega)
    replace hO_18 := hO_18.keepO K_37 (fun q_ hq_ eq_ => pr_35 (by simp only [one] at eq_; rw [← eq_]; exact hq_))
    replace hc_25 := hc_25.keep K_37 (by simp only [one]; omega)
    replace K0 := K0.new K_37 (fun x hx => by simp only [one] at hx; omega)
    replace hb_31 := hb_31'
    clear hb_31'
    refine RL.nil ?_
    obtain ⟨hni, pl, hpl1, hps, hpl2, hub⟩ := hq o (mem_of_at hxo)
    unfold i64 at hni
    refine Run.seq ?_
    refine Run.seq ?_
    refine Run.region ?_
    refine RL.val (x_moveI rfl) ?_
    refine RL.val (x_gtI rfl rfl) ?_
    refine RL.nil ?_
    refine Run.cond rfl (fun hc41 => ?_) (fun hc41 => ?_)
    · try simp only [br] at hc41
      refine Run.exit rfl ?_
      refine Run.seq ?_
      refine Run.region ?_
      refine RL.val (x_assignB rfl) ?_
      refine RL.nil ?_
      refine Run.ret1 (v := .bool (true)) Try.func9 rfl rfl ?_
      exact ⟨_, rfl, rfl, K0⟩
    · try simp only [br] at hc41
      refine Run.skip ?_
      refine Run.seq ?_
      have hok := hO_18.ok
      have hl8 := hok.len
      have hpL := peersL_len T.l
      refine Run.region ?_
      refine RL.val (x_moveP rfl) ?_
      refine RL.st rfl <| St1.call (vals := [.pointer (some ⟨b_6, 0, none⟩)]) en23 rfl (peers_ _ _ _ T _ hO_18.blk hO_18.ok.len) ?_
      rintro _ w_40 ⟨a_38, c_39, rfl, ho_41, hg_42, K_43⟩
      have pr_44 : ¬ own a_38 b_1 := notNew hg_42 hb_4.lt
      have pr_45 : ∀ q_, own a_38 q_ → ¬ tabS b_6 alb q_ := apartNew hg_42 hO_18.own_lt
      have pr_46 : ¬ own a_38 b_28 := notNew hg_42 hb_31.lt
      have pg_47 : ∀ q_, own a_38 q_ → w.heap.size ≤ q_ := fun q_ h => Nat.le_trans K0.size (hg_42 q_ h)
      clear hg_42
      replace hb_4 := hb_4.ext K_43
      replace hO_18 := hO_18.ext K_43
      replace hb_31 := hb_31.ext K_43
      replace K0 := K0.ext K_43
      refine RL.st rfl <| St1.call (vals := [.slice (a_38) ((peersL T.l).length) (c_39)]) en22 rfl (clone_peer _ _ _ _ ho_41.sl (by omega)) ?_
      rintro _ w_50 ⟨a_48, c_49, rfl, ho_51, hg_52, K_53⟩
      have pr_54 : ¬ own a_48 b_1 := notNew hg_52 hb_4.lt
      have pr_55 : ∀ q_, own a_48 q_ → ¬ tabS b_6 alb q_ := apartNew hg_52 hO_18.own_lt
      have pr_56 : ¬ own a_48 b_28 := notNew hg_52 hb_31.lt
      have pr_57 : ∀ q_, own a_48 q_ → ¬ own a_38 q_ := apartNew hg_52 ho_41.own_lt
      have pg_58 : ∀ q_, own a_48 q_ → w.heap.size ≤ q_ := fun q_ h => Nat.le_trans K0.size (hg_52 q_ h)
      clear hg_52
      replace hb_4 := hb_4.ext K_53
      replace hO_18 := hO_18.ext K_53
      replace hb_31 := hb_31.ext K_53
      replace ho_41 := ho_41.ext K_53
      replace K0 := K0.ext K_53
      refine RL.val (x_assignSl rfl) ?_
      refine RL.nil ?_
      refine Run.seq ?_
      refine Run.seq ?_
      refine Run.region ?_
      refine RL.val (x_fld (o' := 0) Try.underlying65 rfl ty3 rfl rfl rfl) ?_
      refine RL.val (x_ld (v := .int .i64 ((o).op)) ty3 rfl rfl (hb_31.cl.field (i := 0) rfl)) ?_
      refine RL.val (x_convI rfl ⟨_, Try.underlying3⟩ Try.underlying27) ?_
      refine RL.val (x_rem rfl rfl (by decide)) ?_
      refine RL.nil ?_
      refine Run.block ?_
      refine Run.seq ?_
      refine Run.region ?_
      refine RL.val (x_eqI rfl rfl) ?_
      refine RL.val (x_assignB rfl) ?_
      refine RL.nil ?_
      refine Run.cond rfl (fun hc56 => ?_) (fun hc56 => ?_)
      · try simp only [br] at hc56
        refine Run.seq ?_
        refine Run.drawT [] (m := 7) (by kernel_rfl) rfl ?_
        intro w_59 K_60
        replace hb_4 := hb_4.ext K_60
        replace hO_18 := hO_18.ext K_60
        replace hb_31 := hb_31.ext K_60
        replace ho_41 := ho_41.ext K_60
        replace ho_51 := ho_51.ext K_60
        replace K0 := K0.ext K_60
        refine ⟨fun w' => Blk w' b_28 [.int .i64 ((o).op), .int .i64 ((o).now), .slice ((o).peers.a) ((o).peers.len) ((o).peers.cap), .int .i64 ((o).kind), .int .i64 ((o).frm), .int .i64 ((o).req), .int .i64 ((o).owner), .int .i64 ((o).n)] 65 ∧ True, ?_⟩
        refine RT.takeP (v := .pointer (some ⟨b_6, 0, none⟩)) 0 rfl (by kernel_rfl) (.inr ⟨hb_31, trivial⟩) (fun _ => (x_moveP rfl)) ?_
        refine RT.takeP (v := .pointer (some ⟨b_28, 2, none⟩)) 1 rfl (by kernel_rfl) (.inr ⟨hb_31, trivial⟩) (fun _ => (x_fld (o' := 2) Try.underlying65 rfl ty32 rfl rfl rfl)) ?_
        refine RT.take (v := .slice ((o).peers.a) (pl.length) ((o).peers.cap)) 2 rfl (by kernel_rfl) ⟨hb_31, trivial⟩ (by rintro _ ⟨hb_31, -⟩; exact (litSl (m' := pl.length) (x_ld (v := .slice ((o).peers.a) ((o).peers.len) ((o).peers.cap)) ty32 rfl rfl (hb_31.cl.field (i := 2) rfl)) hpl1)) ?_
        refine RT.takeP (v := .pointer (some ⟨b_28, 1, none⟩)) 4 rfl (by kernel_rfl) (.inr ⟨hb_31, trivial⟩) (fun _ => (x_fld (o' := 1) Try.underlying65 rfl ty3 rfl rfl rfl)) ?_
        refine RT.take (v := .int .i64 ((o).now)) 5 rfl (by kernel_rfl) ⟨hb_31, trivial⟩ (by rintro _ ⟨hb_31, -⟩; exact (x_ld (v := .int .i64 ((o).now)) ty3 rfl rfl (hb_31.cl.field (i := 1) rfl))) ?_
        refine RT.st 3 rfl (by kernel_rfl) rfl <| St1.call (vals := [.slice ((o).peers.a) (pl.length) ((o).peers.cap)]) en22 rfl (clone_peer _ _ _ _ (hps.ext K0) (by omega)) ?_
        rintro _ w_63 ⟨a_61, c_62, rfl, ho_64, hg_65, K_66⟩
        have pr_67 : ¬ own a_61 b_1 := notNew hg_65 hb_4.lt
        have pr_68 : ∀ q_, own a_61 q_ → ¬ tabS b_6 alb q_ := apartNew hg_65 hO_18.own_lt
        have pr_69 : ¬ own a_61 b_28 := notNew hg_65 hb_31.lt
        have pr_70 : ∀ q_, own a_61 q_ → ¬ own a_38 q_ := apartNew hg_65 ho_41.own_lt
        have pr_71 : ∀ q_, own a_61 q_ → ¬ own a_48 q_ := apartNew hg_65 ho_51.own_lt
        have pg_72 : ∀ q_, own a_61 q_ → w.heap.size ≤ q_ := fun q_ h => Nat.le_trans K0.size (hg_65 q_ h)
        clear hg_65
        replace hb_4 := hb_4.ext K_66
        replace hO_18 := hO_18.ext K_66
        replace hb_31 := hb_31.ext K_66
        replace ho_41 := ho_41.ext K_66
        replace ho_51 := ho_51.ext K_66
        replace K0 := K0.ext K_66
        refine ⟨.inr ⟨hb_31, trivial⟩, ?_⟩
        refine RT.st 6 rfl (by kernel_rfl) rfl <| St1.call (vals := [.pointer (some ⟨b_6, 0, none⟩), .slice (a_61) (pl.length) (c_62), .int .i64 ((o).now)]) en15 rfl (hear_ _ _ _ T _ pl _ ((o).now) _ hO_18 ho_64.sl (fun x hx _ hb => (fun q_ h1 h2 => pr_68 q_ h2 h1) _ hb ((own_sub _) x hx)) (by first | omega | simp) (by omega)) ?_
        rintro _ w_75 ⟨a_73, c_74, rfl, ho_76, hg_77, hT_78, K_79⟩
        have pr_80 : ¬ own a_73 b_1 := notNew hg_77 hb_4.lt
        have pr_81 : ∀ q_, own a_73 q_ → ¬ tabS b_6 alb q_ := apartNew hg_77 hO_18.own_lt
        have pr_82 : ¬ own a_73 b_28 := notNew hg_77 hb_31.lt
        have pr_83 : ∀ q_, own a_73 q_ → ¬ own a_38 q_ := apartNew hg_77 ho_41.own_lt
        have pr_84 : ∀ q_, own a_73 q_ → ¬ own a_48 q_ := apartNew hg_77 ho_51.own_lt
        have pr_85 : ∀ q_, own a_73 q_ → ¬ own a_61 q_ := apartNew hg_77 ho_64.own_lt
        have pg_86 : ∀ q_, own a_73 q_ → w.heap.size ≤ q_ := fun q_ h => Nat.le_trans K0.size (hg_77 q_ h)
        clear hg_77
        replace hb_4 := hb_4.keep K_79 pr_19
        replace hb_31 := hb_31.keep K_79 pr_35
        replace ho_41 := ho_41.keepO K_79 pr_45
        replace ho_51 := ho_51.keepO K_79 pr_55
        replace ho_64 := ho_64.keepO K_79 pr_68
        replace K0 := K0.new K_79 pr_20
        replace hO_18 := hT_78
        clear hT_78
        refine ⟨.inr ⟨hb_31, trivial⟩, ?_⟩
        refine RT.done (by kernel_rfl) ?_
        obtain ⟨hN1, hG, hCon, hPi⟩ := nev_hear (l := pl) (t := o.now) hok hN hn (by omega)
        have hok1 := hO_18.ok
        have hpL1 := peersL_len ((hear T pl ((o).now)).1).l
        have hl81 := hok1.len
        have hpl3 : ((hear T pl ((o).now)).1).pings.length ≤ T.pings.length + 1 := by rw [hPi]; omega
        refine Run.seq ?_
        refine Run.region ?_
        refine RL.val (x_fld (o' := 2) Try.underlying65 rfl ty32 rfl rfl rfl) ?_
        refine RL.val (litSl (m' := pl.length) (x_ld (v := .slice ((o).peers.a) ((o).peers.len) ((o).peers.cap)) ty32 rfl rfl (hb_31.cl.field (i := 2) rfl)) hpl1) ?_
        refine RL.val (x_lenSl Try.underlying32 rfl) ?_
        refine RL.val (x_moveI rfl) ?_
        refine RL.nil ?_
        refine Run.block ?_
        refine Run.loop (ι := Nat) (fun j ρ' w' => Holds ρ' [(2, .pointer (some ⟨b_1, 0, none⟩)), (5, .pointer (some ⟨b_6, 0, none⟩)), (9, .slice (a_48) ((peersL T.l).length) (c_49)), (33, .slice (as0) (script.length) (cs0)), (34, .int .i64 (((script.length : Nat) : Int))), (35, .int .i64 (((i : Nat) : Int))), (36, .bool (decide (((i : Nat) : Int) < ((script.length : Nat) : Int)))), (66, .slice ((o).peers.a) (pl.length) ((o).peers.cap)), (67, .int .i64 (((pl.length : Nat) : Int))), (68, .int .i64 (((j : Nat) : Int)))] ∧ Ext w w' ∧ (Blk w' b_1 [.int .i64 (n)] 3) ∧ (Blk w' b_28 [.int .i64 ((o).op), .int .i64 ((o).now), .slice ((o).peers.a) ((o).peers.len) ((o).peers.cap), .int .i64 ((o).kind), .int .i64 ((o).frm), .int .i64 ((o).req), .int .i64 ((o).owner), .int .i64 ((o).n)] 65) ∧ (TabAt w' b_6 alb clb ((hear T pl ((o).now)).1)) ∧ (OwnSl w' 23 (a_38) (c_39) (peersL T.l)) ∧ (OwnSl w' 23 (a_48) (c_49) (peersL T.l)) ∧ (OwnSl w' 23 (a_61) (c_62) (pl)) ∧ (OwnSl w' 23 (a_73) (c_74) ((hear T pl ((o).now)).2)) ∧ (j ≤ pl.length)) (fun j => pl.length - j) 0 ?_ ?_
        · refine ⟨⟨rfl, rfl, rfl, rfl, rfl, rfl, rfl, rfl, rfl, rfl, trivial⟩, K0, hb_4, hb_31, hO_18, ho_41, ho_51, ho_64, ho_76, ?_⟩
          · omega
        clear hb_4 hO_18 hb_31 ho_41 ho_51 ho_64 ho_76
        clear K0
        rintro j ρ_89 w_87 ⟨hH_88, K0, hb_4, hb_31, hO_18, ho_41, ho_51, ho_64, ho_76, hj⟩ ih2
        obtain ⟨ρ₀, rfl⟩ := hH_88.ex
        clear hH_88
        refine Run.seq ?_
        refine Run.region ?_
        refine RL.val (x_ltI rfl rfl) ?_
        refine RL.nil ?_
        refine Run.seq ?_
        refine Run.cond rfl (fun hc69 => ?_) (fun hc69 => ?_)
        · try simp only [br] at hc69
          refine Run.skip ?_
          refine Run.seq ?_
          refine Run.block ?_
          refine Run.seq ?_
          refine Run.region ?_
          obtain ⟨b_90, o_91, p, hp, ha_92, hc_93⟩ := hps.el (i := j) (by first | omega | (simp only [List.length_set]; omega))
          have hc_93_lt := hc_93.lt
          replace hc_93 := hc_93.ext K0
          refine RL.val (x_idxN Try.underlying32 ty23 rfl rfl ha_92 (by first | omega | (simp only [List.length_set]; omega))) ?_
          refine RL.val (x_ldV (v := .agg #[.int .i64 ((p).node), .int .i64 ((p).inc), .int .i64 ((p).status)]) (y := p) ty23 rfl hc_93 rfl) ?_
          refine RL.st rfl <| St1.alloc ty23 ?_
          intro b_96 w_97 hl_100 hb_99 K_98
          replace hb_99 : Blk w_97 b_96 [.int .i64 (0), .int .i64 (0), .int .i64 (0)] 23 := hb_99
          have ne_101 : b_1 < b_96 := Nat.lt_of_lt_of_le hb_4.lt hl_100
          have ne_102 : b_28 < b_96 := Nat.lt_of_lt_of_le hb_31.lt hl_100
          have ne_103 : b_90 < b_96 := Nat.lt_of_lt_of_le hc_93.lt hl_100
          have pr_104 : ¬ tabS b_6 alb b_96 := fun h => absurd (hO_18.own_lt _ h) (by omega)
          have pr_105 : ¬ own a_38 b_96 := fun h => absurd (ho_41.own_lt _ h) (by omega)
          have pr_106 : ¬ own a_48 b_96 := fun h => absurd (ho_51.own_lt _ h) (by omega)
          have pr_107 : ¬ own a_61 b_96 := fun h => absurd (ho_64.own_lt _ h) (by omega)
          have pr_108 : ¬ own a_73 b_96 := fun h => absurd (ho_76.own_lt _ h) (by omega)
          have : w.heap.size ≤ b_96 := Nat.le_trans K0.size hl_100
          clear hl_100
          replace hb_4 := hb_4.ext K_98
          replace hb_31 := hb_31.ext K_98
          replace hO_18 := hO_18.ext K_98
          replace ho_41 := ho_41.ext K_98
          replace ho_51 := ho_51.ext K_98
          replace ho_64 := ho_64.ext K_98
          replace ho_76 := ho_76.ext K_98
          replace hc_93 := hc_93.ext K_98
          replace K0 := K0.ext K_98
          refine RL.st rfl <| St1.store (v := .agg #[.int .i64 ((p).node), .int .i64 ((p).inc), .int .i64 ((p).status)]) ty23 rfl rfl rfl (by simp [Value.cells, Value.oneCell']) hb_99 (by simp) ?_
          intro w_109 hb_99_ K_110
          have hb_99' : Blk w_109 b_96 [.int .i64 ((p).node), .int .i64 ((p).inc), .int .i64 ((p).status)] 23 := hb_99_
          clear hb_99_
          replace hb_4 := hb_4.keep K_110 (by simp only [one]; omega)
          replace hb_31 := hb_31.keep K_110 (by simp only [one]; omega)
          replace hO_18 := hO_18.keepO K_110 (fun q_ hq_ eq_ => pr_104 (by simp only [one] at eq_; rw [← eq_]; exact hq_))
          replace ho_41 := ho_41.keepO K_110 (fun q_ hq_ eq_ => pr_105 (by simp only [one] at eq_; rw [← eq_]; exact hq_))
          replace ho_51 := ho_51.keepO K_110 (fun q_ hq_ eq_ => pr_106 (by simp only [one] at eq_; rw [← eq_]; exact hq_))
          replace ho_64 := ho_64.keepO K_110 (fun q_ hq_ eq_ => pr_107 (by simp only [one] at eq_; rw [← eq_]; exact hq_))
          replace ho_76 := ho_76.keepO K_110 (fun q_ hq_ eq_ => pr_108 (by simp only [one] at eq_; rw [← eq_]; exact hq_))
          replace hc_93 := hc_93.keep K_110 (by simp only [one]; omega)
          replace K0 := K0.new K_110 (fun x hx => by simp only [one] at hx; omega)
          replace hb_99 := hb_99'
          clear hb_99'
          refine RL.nil ?_
          refine Run.seq ?_
          have hse := never_self hok1 hN1 hn
          refine Run.region ?_
          refine RL.val (x_moveP rfl) ?_
          refine RL.st rfl <| St1.call (vals := [.pointer (some ⟨b_6, 0, none⟩)]) en23 rfl (peers_ _ _ _ ((hear T pl ((o).now)).1) _ hO_18.blk hO_18.ok.len) ?_
          rintro _ w_113 ⟨a_111, c_112, rfl, ho_114, hg_115, K_116⟩
          have pr_117 : ¬ own a_111 b_1 := notNew hg_115 hb_4.lt
          have pr_118 : ¬ own a_111 b_28 := notNew hg_115 hb_31.lt
          have pr_119 : ∀ q_, own a_111 q_ → ¬ tabS b_6 alb q_ := apartNew hg_115 hO_18.own_lt
          have pr_120 : ∀ q_, own a_111 q_ → ¬ own a_38 q_ := apartNew hg_115 ho_41.own_lt
          have pr_121 : ∀ q_, own a_111 q_ → ¬ own a_48 q_ := apartNew hg_115 ho_51.own_lt
          have pr_122 : ∀ q_, own a_111 q_ → ¬ own a_61 q_ := apartNew hg_115 ho_64.own_lt
          have pr_123 : ∀ q_, own a_111 q_ → ¬ own a_73 q_ := apartNew hg_115 ho_76.own_lt
          have pr_124 : ¬ own a_111 b_96 := notNew hg_115 hb_99.lt
          have pg_125 : ∀ q_, own a_111 q_ → w.heap.size ≤ q_ := fun q_ h => Nat.le_trans K0.size (hg_115 q_ h)
          clear hg_115
          replace hb_4 := hb_4.ext K_116
          replace hb_31 := hb_31.ext K_116
          replace hO_18 := hO_18.ext K_116
          replace ho_41 := ho_41.ext K_116
          replace ho_51 := ho_51.ext K_116
          replace ho_64 := ho_64.ext K_116
          replace ho_76 := ho_76.ext K_116
          replace hb_99 := hb_99.ext K_116
          replace K0 := K0.ext K_116
          refine RL.val (x_mkFunc (a := []) (c := [.pointer (some ⟨b_1, 0, none⟩)]) rfl rfl) ?_
          refine RL.st rfl <| St1.call (vals := [.slice (a_111) ((peersL ((hear T pl ((o).now)).1).l).length) (c_112), .func (.func 29) #[] #[.pointer (some ⟨b_1, 0, none⟩)]]) en28 rfl (indexFunc_peer _ _ _ 29 _ (fun x => x.node == n) en29 _ ho_114.sl (by omega) (fun x _ w' K' => nev1 x b_1 n w' (hb_4.ext K'))) ?_
          rintro _ w_126 ⟨rfl, K_127⟩
          replace hb_4 := hb_4.ext K_127
          replace hb_31 := hb_31.ext K_127
          replace hO_18 := hO_18.ext K_127
          replace ho_41 := ho_41.ext K_127
          replace ho_51 := ho_51.ext K_127
          replace ho_64 := ho_64.ext K_127
          replace ho_76 := ho_76.ext K_127
          replace hb_99 := hb_99.ext K_127
          replace ho_114 := ho_114.ext K_127
          replace K0 := K0.ext K_127
          refine RL.val (x_assignI rfl) ?_
          refine RL.nil ?_
          refine Run.seq ?_
          refine Run.seq ?_
          refine Run.region ?_
          refine RL.val (x_moveI rfl) ?_
          refine RL.val (x_ltI rfl rfl) ?_
          refine RL.nil ?_
          refine Run.cond rfl (fun hc77 => ?_) (fun hc77 => ?_)
          · try simp only [br] at hc77
            exact absurd hse.1 (by omega)
          · try simp only [br] at hc77
            obtain ⟨k0, hk0, hkl0, hkp0, _⟩ := findI_some (p := (fun x : Peer => x.node == n)) (xs := (peersL ((hear T pl ((o).now)).1).l)) rfl hc77
            rw [hk0]
            obtain ⟨x, hx⟩ : ∃ x, (peersL ((hear T pl ((o).now)).1).l)[k0]? = some x := ⟨_, List.getElem?_eq_getElem hkl0⟩
            have hxn : x.node = n := by have := hkp0 x hx; simpa using this
            refine Run.skip ?_
            refine Run.seq ?_
            refine Run.region ?_
            refine RL.val (x_moveP rfl) ?_
            refine RL.st rfl <| St1.call (vals := [.pointer (some ⟨b_6, 0, none⟩)]) en23 rfl (peers_ _ _ _ ((hear T pl ((o).now)).1) _ hO_18.blk hO_18.ok.len) ?_
            rintro _ w_130 ⟨a_128, c_129, rfl, ho_131, hg_132, K_133⟩
            have pr_134 : ¬ own a_128 b_1 := notNew hg_132 hb_4.lt
            have pr_135 : ¬ own a_128 b_28 := notNew hg_132 hb_31.lt
            have pr_136 : ∀ q_, own a_128 q_ → ¬ tabS b_6 alb q_ := apartNew hg_132 hO_18.own_lt
            have pr_137 : ∀ q_, own a_128 q_ → ¬ own a_38 q_ := apartNew hg_132 ho_41.own_lt
            have pr_138 : ∀ q_, own a_128 q_ → ¬ own a_48 q_ := apartNew hg_132 ho_51.own_lt
            have pr_139 : ∀ q_, own a_128 q_ → ¬ own a_61 q_ := apartNew hg_132 ho_64.own_lt
            have pr_140 : ∀ q_, own a_128 q_ → ¬ own a_73 q_ := apartNew hg_132 ho_76.own_lt
            have pr_141 : ¬ own a_128 b_96 := notNew hg_132 hb_99.lt
            have pr_142 : ∀ q_, own a_128 q_ → ¬ own a_111 q_ := apartNew hg_132 ho_114.own_lt
            have pg_143 : ∀ q_, own a_128 q_ → w.heap.size ≤ q_ := fun q_ h => Nat.le_trans K0.size (hg_132 q_ h)
            clear hg_132
            replace hb_4 := hb_4.ext K_133
            replace hb_31 := hb_31.ext K_133
            replace hO_18 := hO_18.ext K_133
            replace ho_41 := ho_41.ext K_133
            replace ho_51 := ho_51.ext K_133
            replace ho_64 := ho_64.ext K_133
            replace ho_76 := ho_76.ext K_133
            replace hb_99 := hb_99.ext K_133
            replace ho_114 := ho_114.ext K_133
            replace K0 := K0.ext K_133
            refine RL.val (x_moveI rfl) ?_
            obtain ⟨b_144, o_145, x1, hx1, ha_146, hc_147⟩ := ho_131.sl.el (i := k0) (by omega)
            obtain rfl : x = x1 := Option.some.inj (hx.symm.trans hx1)
            refine RL.val (x_idxN Try.underlying32 ty23 rfl rfl ha_146 (by omega)) ?_
            refine RL.val (x_ldV (v := .agg #[.int .i64 ((x).node), .int .i64 ((x).inc), .int .i64 ((x).status)]) (y := x) ty23 rfl hc_147 rfl) ?_
            refine RL.st rfl <| St1.alloc ty23 ?_
            intro b_150 w_151 hl_154 hb_153 K_152
            replace hb_153 : Blk w_151 b_150 [.int .i64 (0), .int .i64 (0), .int .i64 (0)] 23 := hb_153
            have ne_155 : b_1 < b_150 := Nat.lt_of_lt_of_le hb_4.lt hl_154
            have ne_156 : b_28 < b_150 := Nat.lt_of_lt_of_le hb_31.lt hl_154
            have ne_157 : b_96 < b_150 := Nat.lt_of_lt_of_le hb_99.lt hl_154
            have ne_158 : b_144 < b_150 := Nat.lt_of_lt_of_le hc_147.lt hl_154
            have pr_159 : ¬ tabS b_6 alb b_150 := fun h => absurd (hO_18.own_lt _ h) (by omega)
            have pr_160 : ¬ own a_38 b_150 := fun h => absurd (ho_41.own_lt _ h) (by omega)
            have pr_161 : ¬ own a_48 b_150 := fun h => absurd (ho_51.own_lt _ h) (by omega)
            have pr_162 : ¬ own a_61 b_150 := fun h => absurd (ho_64.own_lt _ h) (by omega)
            have pr_163 : ¬ own a_73 b_150 := fun h => absurd (ho_76.own_lt _ h) (by omega)
            have pr_164 : ¬ own a_111 b_150 := fun h => absurd (ho_114.own_lt _ h) (by omega)
            have pr_165 : ¬ own a_128 b_150 := fun h => absurd (ho_131.own_lt _ h) (by omega)
            have : w.heap.size ≤ b_150 := Nat.le_trans K0.size hl_154
            clear hl_154
            replace hb_4 := hb_4.ext K_152
            replace hb_31 := hb_31.ext K_152
            replace hO_18 := hO_18.ext K_152
            replace ho_41 := ho_41.ext K_152
            replace ho_51 := ho_51.ext K_152
            replace ho_64 := ho_64.ext K_152
            replace ho_76 := ho_76.ext K_152
            replace hb_99 := hb_99.ext K_152
            replace ho_114 := ho_114.ext K_152
            replace ho_131 := ho_131.ext K_152
            replace hc_147 := hc_147.ext K_152
            replace K0 := K0.ext K_152
            refine RL.st rfl <| St1.store (v := .agg #[.int .i64 ((x).node), .int .i64 ((x).inc), .int .i64 ((x).status)]) ty23 rfl rfl rfl (by simp [Value.cells, Value.oneCell']) hb_153 (by simp) ?_
            intro w_166 hb_153_ K_167
            have hb_153' : Blk w_166 b_150 [.int .i64 ((x).node), .int .i64 ((x).inc), .int .i64 ((x).status)] 23 := hb_153_
            clear hb_153_
            replace hb_4 := hb_4.keep K_167 (by simp only [one]; omega)
            replace hb_31 := hb_31.keep K_167 (by simp only [one]; omega)
            replace hO_18 := hO_18.keepO K_167 (fun q_ hq_ eq_ => pr_159 (by simp only [one] at eq_; rw [← eq_]; exact hq_))
            replace ho_41 := ho_41.keepO K_167 (fun q_ hq_ eq_ => pr_160 (by simp only [one] at eq_; rw [← eq_]; exact hq_))
            replace ho_51 := ho_51.keepO K_167 (fun q_ hq_ eq_ => pr_161 (by simp only [one] at eq_; rw [← eq_]; exact hq_))
            replace ho_64 := ho_64.keepO K_167 (fun q_ hq_ eq_ => pr_162 (by simp only [one] at eq_; rw [← eq_]; exact hq_))
            replace ho_76 := ho_76.keepO K_167 (fun q_ hq_ eq_ => pr_163 (by simp only [one] at eq_; rw [← eq_]; exact hq_))
            replace hb_99 := hb_99.keep K_167 (by simp only [one]; omega)
            replace ho_114 := ho_114.keepO K_167 (fun q_ hq_ eq_ => pr_164 (by simp only [one] at eq_; rw [← eq_]; exact hq_))
            replace ho_131 := ho_131.keepO K_167 (fun q_ hq_ eq_ => pr_165 (by simp only [one] at eq_; rw [← eq_]; exact hq_))
            replace hc_147 := hc_147.keep K_167 (fun e => pr_165 (by simp only [one] at e; rw [← e]; exact (own_sub _) _ ha_146))
            replace K0 := K0.new K_167 (fun x hx => by simp only [one] at hx; omega)
            replace hb_153 := hb_153'
            clear hb_153'
            refine RL.nil ?_
            refine Run.seq ?_
            refine Run.region ?_
            refine RL.val (x_lds (cs := #[.int .i64 ((p).node), .int .i64 ((p).inc), .int .i64 ((p).status)]) ty23 rfl rfl (hb_99.cl.drop 0 3)) ?_
            refine RL.st rfl <| St1.call (vals := [.agg #[.int .i64 ((p).node), .int .i64 ((p).inc), .int .i64 ((p).status)]]) en30 rfl (mayR_ p _) ?_
            rintro _ w_168 ⟨rfl, K_169⟩
            replace hb_4 := hb_4.ext K_169
            replace hb_31 := hb_31.ext K_169
            replace hO_18 := hO_18.ext K_169
            replace ho_41 := ho_41.ext K_169
            replace ho_51 := ho_51.ext K_169
            replace ho_64 := ho_64.ext K_169
            replace ho_76 := ho_76.ext K_169
            replace hb_99 := hb_99.ext K_169
            replace ho_114 := ho_114.ext K_169
            replace ho_131 := ho_131.ext K_169
            replace hb_153 := hb_153.ext K_169
            replace K0 := K0.ext K_169
            refine RL.val (x_moveB rfl) ?_
            refine RL.gval (wantedT rfl rfl rfl rfl) (fun hg => (x_fld (o' := 0) Try.underlying23 rfl ty3 rfl rfl rfl)) ?_
            refine RL.gval (wantedT rfl rfl rfl rfl) (fun hg => (x_ld (v := .int .i64 ((p).node)) ty3 (gvr hg) rfl (hb_99.cl.field (i := 0) rfl))) ?_
            refine RL.gval (wantedT rfl rfl rfl rfl) (fun hg => (x_ld (v := .int .i64 (n)) ty3 rfl rfl (hb_4.cl.field (i := 0) rfl))) ?_
            refine RL.gval (wantedT rfl rfl rfl rfl) (fun hg => (x_eqI (gvr hg) (gvr hg))) ?_
            refine RL.val (x_and rfl rfl rfl) ?_
            refine RL.val (x_moveB rfl) ?_
            refine RL.gval (wantedT rfl rfl rfl rfl) (fun hg => (x_fld (o' := 2) Try.underlying23 rfl ty3 rfl rfl rfl)) ?_
            refine RL.gval (wantedT rfl rfl rfl rfl) (fun hg => (x_ld (v := .int .i64 ((p).status)) ty3 (gvr hg) rfl (hb_99.cl.field (i := 2) rfl))) ?_
            refine RL.gval (wantedT rfl rfl rfl rfl) (fun hg => (x_neI (gvr hg) rfl)) ?_
            refine RL.val (x_and rfl rfl rfl) ?_
            refine RL.val (x_moveB rfl) ?_
            refine RL.gval (wantedT rfl rfl rfl rfl) (fun hg => (x_fld (o' := 1) Try.underlying23 rfl ty3 rfl rfl rfl)) ?_
            refine RL.gval (wantedT rfl rfl rfl rfl) (fun hg => (x_ld (v := .int .i64 ((p).inc)) ty3 (gvr hg) rfl (hb_99.cl.field (i := 1) rfl))) ?_
            refine RL.gval (wantedT rfl rfl rfl rfl) (fun hg => (x_ltI (gvr hg) rfl)) ?_
            refine RL.val (x_and rfl rfl rfl) ?_
            refine RL.val (x_moveB rfl) ?_
            refine RL.gval (wantedT rfl rfl rfl rfl) (fun hg => (x_lds (cs := #[.int .i64 ((x).node), .int .i64 ((x).inc), .int .i64 ((x).status)]) ty23 rfl rfl (hb_153.cl.drop 0 3))) ?_
            refine RL.gval (wantedT rfl rfl rfl rfl) (fun hg => (x_lds (cs := #[.int .i64 ((p).node), .int .i64 ((p).inc), .int .i64 ((p).status)]) ty23 rfl rfl (hb_99.cl.drop 0 3))) ?_
            refine RL.gcall (vals := [.agg #[.int .i64 ((x).node), .int .i64 ((x).inc), .int .i64 ((x).status)], .agg #[.int .i64 ((p).node), .int .i64 ((p).inc), .int .i64 ((p).status)]]) (wantedT rfl rfl rfl rfl) en12 (fun hg => (mcons (gvr hg) (mcons (gvr hg) mnil))) (fun hg => (greaterR_ x p _)) ?_
            intro w_170 K_171
            replace hb_4 := hb_4.ext K_171
            replace hb_31 := hb_31.ext K_171
            replace hO_18 := hO_18.ext K_171
            replace ho_41 := ho_41.ext K_171
            replace ho_51 := ho_51.ext K_171
            replace ho_64 := ho_64.ext K_171
            replace ho_76 := ho_76.ext K_171
            replace hb_99 := hb_99.ext K_171
            replace ho_114 := ho_114.ext K_171
            replace ho_131 := ho_131.ext K_171
            replace hb_153 := hb_153.ext K_171
            replace K0 := K0.ext K_171
            refine RL.gval (wantedT rfl rfl rfl rfl) (fun hg => (x_not (gvr hg))) ?_
            refine RL.val (x_and rfl rfl rfl) ?_
            refine RL.nil ?_
            refine Run.cond rfl (fun hc106 => ?_) (fun hc106 => ?_)
            · try simp only [br] at hc106
              exact (never_contra hok1 hn (hCon p (mem_of_at hp)) (mem_of_at hx) hxn (by simpa using hc106)).elim
            · try simp only [br] at hc106
              refine Run.skip ?_
              refine Run.inBlock ?_
              refine Run.region ?_
              refine RL.val (litI (c := ((j + 1 : Nat) : Int)) (x_add rfl rfl (by omega) (by omega)) rfl) ?_
              refine RL.val (x_moveI rfl) ?_
              refine RL.nil ?_
              refine ih2 (j + 1) _ _ ?_ (by omega)
              refine ⟨⟨rfl, rfl, rfl, rfl, rfl, rfl, rfl, rfl, rfl, rfl, trivial⟩, K0, hb_4, hb_31, hO_18, ho_41, ho_51, ho_64, ho_76, ?_⟩
              · omega
        · try simp only [br] at hc69
          refine Run.exit rfl ?_
          refine Run.inBlock ?_
          refine Run.seq ?_
          refine Run.seq ?_
          refine Run.region ?_
          refine RL.val (x_moveSl rfl) ?_
          refine RL.val (x_lenSl Try.underlying32 rfl) ?_
          refine RL.val (x_moveI rfl) ?_
          refine RL.nil ?_
          refine Run.block ?_
          refine Run.loop (ι := Nat) (fun j ρ' w' => Holds ρ' [(2, .pointer (some ⟨b_1, 0, none⟩)), (5, .pointer (some ⟨b_6, 0, none⟩)), (33, .slice (as0) (script.length) (cs0)), (34, .int .i64 (((script.length : Nat) : Int))), (35, .int .i64 (((i : Nat) : Int))), (36, .bool (decide (((i : Nat) : Int) < ((script.length : Nat) : Int)))), (115, .slice (a_48) ((peersL T.l).length) (c_49)), (116, .int .i64 ((((peersL T.l).length : Nat) : Int))), (117, .int .i64 (((j : Nat) : Int)))] ∧ Ext w w' ∧ (Blk w' b_1 [.int .i64 (n)] 3) ∧ (Blk w' b_28 [.int .i64 ((o).op), .int .i64 ((o).now), .slice ((o).peers.a) ((o).peers.len) ((o).peers.cap), .int .i64 ((o).kind), .int .i64 ((o).frm), .int .i64 ((o).req), .int .i64 ((o).owner), .int .i64 ((o).n)] 65) ∧ (TabAt w' b_6 alb clb ((hear T pl ((o).now)).1)) ∧ (OwnSl w' 23 (a_38) (c_39) (peersL T.l)) ∧ (OwnSl w' 23 (a_48) (c_49) (peersL T.l)) ∧ (OwnSl w' 23 (a_61) (c_62) (pl)) ∧ (OwnSl w' 23 (a_73) (c_74) ((hear T pl ((o).now)).2)) ∧ (j ≤ (peersL T.l).length)) (fun j => (peersL T.l).length - j) 0 ?_ ?_
          · refine ⟨⟨rfl, rfl, rfl, rfl, rfl, rfl, rfl, rfl, rfl, trivial⟩, K0, hb_4, hb_31, hO_18, ho_41, ho_51, ho_64, ho_76, ?_⟩
            · omega
          clear hb_4 hb_31 hO_18 ho_41 ho_51 ho_64 ho_76
          clear K0
          rintro j ρ_174 w_172 ⟨hH_173, K0, hb_4, hb_31, hO_18, ho_41, ho_51, ho_64, ho_76, hj⟩ ih3
          obtain ⟨ρ₀, rfl⟩ := hH_173.ex
          clear hH_173
          refine Run.seq ?_
          refine Run.region ?_
          refine RL.val (x_ltI rfl rfl) ?_
          refine RL.nil ?_
          refine Run.seq ?_
          refine Run.cond rfl (fun hc118 => ?_) (fun hc118 => ?_)
          · try simp only [br] at hc118
            refine Run.skip ?_
            refine Run.seq ?_
            refine Run.block ?_
            refine Run.seq ?_
            refine Run.region ?_
            obtain ⟨b_175, o_176, p, hp, ha_177, hc_178⟩ := ho_51.sl.el (i := j) (by first | omega | (simp only [List.length_set]; omega))
            refine RL.val (x_idxN Try.underlying32 ty23 rfl rfl ha_177 (by first | omega | (simp only [List.length_set]; omega))) ?_
            refine RL.val (x_ldV (v := .agg #[.int .i64 ((p).node), .int .i64 ((p).inc), .int .i64 ((p).status)]) (y := p) ty23 rfl hc_178 rfl) ?_
            refine RL.st rfl <| St1.alloc ty23 ?_
            intro b_181 w_182 hl_185 hb_184 K_183
            replace hb_184 : Blk w_182 b_181 [.int .i64 (0), .int .i64 (0), .int .i64 (0)] 23 := hb_184
            have ne_186 : b_1 < b_181 := Nat.lt_of_lt_of_le hb_4.lt hl_185
            have ne_187 : b_28 < b_181 := Nat.lt_of_lt_of_le hb_31.lt hl_185
            have ne_188 : b_175 < b_181 := Nat.lt_of_lt_of_le hc_178.lt hl_185
            have pr_189 : ¬ tabS b_6 alb b_181 := fun h => absurd (hO_18.own_lt _ h) (by omega)
            have pr_190 : ¬ own a_38 b_181 := fun h => absurd (ho_41.own_lt _ h) (by omega)
            have pr_191 : ¬ own a_48 b_181 := fun h => absurd (ho_51.own_lt _ h) (by omega)
            have pr_192 : ¬ own a_61 b_181 := fun h => absurd (ho_64.own_lt _ h) (by omega)
            have pr_193 : ¬ own a_73 b_181 := fun h => absurd (ho_76.own_lt _ h) (by omega)
            have : w.heap.size ≤ b_181 := Nat.le_trans K0.size hl_185
            clear hl_185
            replace hb_4 := hb_4.ext K_183
            replace hb_31 := hb_31.ext K_183
            replace hO_18 := hO_18.ext K_183
            replace ho_41 := ho_41.ext K_183
            replace ho_51 := ho_51.ext K_183
            replace ho_64 := ho_64.ext K_183
            replace ho_76 := ho_76.ext K_183
            replace hc_178 := hc_178.ext K_183
            replace K0 := K0.ext K_183
            refine RL.st rfl <| St1.store (v := .agg #[.int .i64 ((p).node), .int .i64 ((p).inc), .int .i64 ((p).status)]) ty23 rfl rfl rfl (by simp [Value.cells, Value.oneCell']) hb_184 (by simp) ?_
            intro w_194 hb_184_ K_195
            have hb_184' : Blk w_194 b_181 [.int .i64 ((p).node), .int .i64 ((p).inc), .int .i64 ((p).status)] 23 := hb_184_
            clear hb_184_
            replace hb_4 := hb_4.keep K_195 (by simp only [one]; omega)
            replace hb_31 := hb_31.keep K_195 (by simp only [one]; omega)
            replace hO_18 := hO_18.keepO K_195 (fun q_ hq_ eq_ => pr_189 (by simp only [one] at eq_; rw [← eq_]; exact hq_))
            replace ho_41 := ho_41.keepO K_195 (fun q_ hq_ eq_ => pr_190 (by simp only [one] at eq_; rw [← eq_]; exact hq_))
            replace ho_51 := ho_51.keepO K_195 (fun q_ hq_ eq_ => pr_191 (by simp only [one] at eq_; rw [← eq_]; exact hq_))
            replace ho_64 := ho_64.keepO K_195 (fun q_ hq_ eq_ => pr_192 (by simp only [one] at eq_; rw [← eq_]; exact hq_))
            replace ho_76 := ho_76.keepO K_195 (fun q_ hq_ eq_ => pr_193 (by simp only [one] at eq_; rw [← eq_]; exact hq_))
            replace hc_178 := hc_178.keep K_195 (fun e => pr_191 (by simp only [one] at e; rw [← e]; exact (own_sub _) _ ha_177))
            replace K0 := K0.new K_195 (fun x hx => by simp only [one] at hx; omega)
            replace hb_184 := hb_184'
            clear hb_184'
            refine RL.nil ?_
            refine Run.seq ?_
            obtain ⟨hn1, hn2⟩ := never_one hok hok1 hG (mem_of_at hp)
            refine Run.region ?_
            refine RL.val (x_moveP rfl) ?_
            refine RL.st rfl <| St1.call (vals := [.pointer (some ⟨b_6, 0, none⟩)]) en23 rfl (peers_ _ _ _ ((hear T pl ((o).now)).1) _ hO_18.blk hO_18.ok.len) ?_
            rintro _ w_198 ⟨a_196, c_197, rfl, ho_199, hg_200, K_201⟩
            have pr_202 : ¬ own a_196 b_1 := notNew hg_200 hb_4.lt
            have pr_203 : ¬ own a_196 b_28 := notNew hg_200 hb_31.lt
            have pr_204 : ∀ q_, own a_196 q_ → ¬ tabS b_6 alb q_ := apartNew hg_200 hO_18.own_lt
            have pr_205 : ∀ q_, own a_196 q_ → ¬ own a_38 q_ := apartNew hg_200 ho_41.own_lt
            have pr_206 : ∀ q_, own a_196 q_ → ¬ own a_48 q_ := apartNew hg_200 ho_51.own_lt
            have pr_207 : ∀ q_, own a_196 q_ → ¬ own a_61 q_ := apartNew hg_200 ho_64.own_lt
            have pr_208 : ∀ q_, own a_196 q_ → ¬ own a_73 q_ := apartNew hg_200 ho_76.own_lt
            have pr_209 : ¬ own a_196 b_181 := notNew hg_200 hb_184.lt
            have pg_210 : ∀ q_, own a_196 q_ → w.heap.size ≤ q_ := fun q_ h => Nat.le_trans K0.size (hg_200 q_ h)
            clear hg_200
            replace hb_4 := hb_4.ext K_201
            replace hb_31 := hb_31.ext K_201
            replace hO_18 := hO_18.ext K_201
            replace ho_41 := ho_41.ext K_201
            replace ho_51 := ho_51.ext K_201
            replace ho_64 := ho_64.ext K_201
            replace ho_76 := ho_76.ext K_201
            replace hb_184 := hb_184.ext K_201
            replace K0 := K0.ext K_201
            refine RL.val (x_mkFunc (a := []) (c := [.pointer (some ⟨b_181, 0, none⟩)]) rfl rfl) ?_
            refine RL.st rfl <| St1.call (vals := [.slice (a_196) ((peersL ((hear T pl ((o).now)).1).l).length) (c_197), .func (.func 31) #[] #[.pointer (some ⟨b_181, 0, none⟩)]]) en28 rfl (indexFunc_peer _ _ _ 31 _ (fun x => x.node == p.node) en31 _ ho_199.sl (by omega) (fun x _ w' K' => nev2 x b_181 p w' (hb_184.ext K'))) ?_
            rintro _ w_211 ⟨rfl, K_212⟩
            replace hb_4 := hb_4.ext K_212
            replace hb_31 := hb_31.ext K_212
            replace hO_18 := hO_18.ext K_212
            replace ho_41 := ho_41.ext K_212
            replace ho_51 := ho_51.ext K_212
            replace ho_64 := ho_64.ext K_212
            replace ho_76 := ho_76.ext K_212
            replace hb_184 := hb_184.ext K_212
            replace ho_199 := ho_199.ext K_212
            replace K0 := K0.ext K_212
            refine RL.val (x_assignI rfl) ?_
            refine RL.nil ?_
            obtain ⟨k0, hk0, hkl0, hkp0, _⟩ := findI_some (p := (fun x : Peer => x.node == p.node)) (xs := (peersL ((hear T pl ((o).now)).1).l)) rfl hn1
            rw [hk0]
            obtain ⟨x, hx⟩ : ∃ x, (peersL ((hear T pl ((o).now)).1).l)[k0]? = some x := ⟨_, List.getElem?_eq_getElem hkl0⟩
            have hxn : x.node = p.node := by have := hkp0 x hx; simpa using this
            refine Run.seq ?_
            by_cases heq : x = p
            · refine Run.drawT [] (m := 21) (by kernel_rfl) rfl ?_
              intro w_213 K_214
              replace hb_4 := hb_4.ext K_214
              replace hb_31 := hb_31.ext K_214
              replace hO_18 := hO_18.ext K_214
              replace ho_41 := ho_41.ext K_214
              replace ho_51 := ho_51.ext K_214
              replace ho_64 := ho_64.ext K_214
              replace ho_76 := ho_76.ext K_214
              replace hb_184 := hb_184.ext K_214
              replace ho_199 := ho_199.ext K_214
              replace K0 := K0.ext K_214
              refine ⟨fun w' => Blk w' b_181 [.int .i64 ((p).node), .int .i64 ((p).inc), .int .i64 ((p).status)] 23 ∧ True, ?_⟩
              refine RT.takeP (v := .int .i64 (((k0 : Nat) : Int))) 0 rfl (by kernel_rfl) (.inr ⟨hb_184, trivial⟩) (fun _ => (x_moveI rfl)) ?_
              refine RT.takeP (v := .bool (false)) 1 rfl (by kernel_rfl) (.inr ⟨hb_184, trivial⟩) (fun _ => (litF (x_ltI rfl rfl) (by simp))) ?_
              refine RT.takeP (v := .bool (false)) 2 rfl (by kernel_rfl) (.inr ⟨hb_184, trivial⟩) (fun _ => (x_moveB rfl)) ?_
              refine RT.gtakeP (v := .pointer (some ⟨b_6, 0, none⟩)) 3 rfl (by kernel_rfl) (.inr ⟨hb_184, trivial⟩) (wantedF1 rfl rfl rfl rfl) (fun hg _ => (x_moveP rfl)) ?_
              refine RT.gtakeP (v := .int .i64 (((k0 : Nat) : Int))) 5 rfl (by kernel_rfl) (.inr ⟨hb_184, trivial⟩) (wantedF1 rfl rfl rfl rfl) (fun hg _ => (x_moveI rfl)) ?_
              refine RT.gtake (v := .agg #[.int .i64 ((p).node), .int .i64 ((p).inc), .int .i64 ((p).status)]) 8 rfl (by kernel_rfl) ⟨hb_184, trivial⟩ (wantedF1 rfl rfl rfl rfl) (fun hg => by rintro _ ⟨hb_184, -⟩; exact (x_lds (cs := #[.int .i64 ((p).node), .int .i64 ((p).inc), .int .i64 ((p).status)]) ty23 rfl rfl (hb_184.cl.drop 0 3))) ?_
              refine RT.gst 4 rfl (by kernel_rfl) (wantedF1 rfl rfl rfl rfl) <| St1.call (vals := [.pointer (some ⟨b_6, 0, none⟩)]) en23 rfl (peers_ _ _ _ ((hear T pl ((o).now)).1) _ hO_18.blk hO_18.ok.len) ?_
              rintro _ w_217 ⟨a_215, c_216, rfl, ho_218, hg_219, K_220⟩
              have pr_221 : ¬ own a_215 b_1 := notNew hg_219 hb_4.lt
              have pr_222 : ¬ own a_215 b_28 := notNew hg_219 hb_31.lt
              have pr_223 : ∀ q_, own a_215 q_ → ¬ tabS b_6 alb q_ := apartNew hg_219 hO_18.own_lt
              have pr_224 : ∀ q_, own a_215 q_ → ¬ own a_38 q_ := apartNew hg_219 ho_41.own_lt
              have pr_225 : ∀ q_, own a_215 q_ → ¬ own a_48 q_ := apartNew hg_219 ho_51.own_lt
              have pr_226 : ∀ q_, own a_215 q_ → ¬ own a_61 q_ := apartNew hg_219 ho_64.own_lt
              have pr_227 : ∀ q_, own a_215 q_ → ¬ own a_73 q_ := apartNew hg_219 ho_76.own_lt
              have pr_228 : ¬ own a_215 b_181 := notNew hg_219 hb_184.lt
              have pr_229 : ∀ q_, own a_215 q_ → ¬ own a_196 q_ := apartNew hg_219 ho_199.own_lt
              have pg_230 : ∀ q_, own a_215 q_ → w.heap.size ≤ q_ := fun q_ h => Nat.le_trans K0.size (hg_219 q_ h)
              clear hg_219
              replace hb_4 := hb_4.ext K_220
              replace hb_31 := hb_31.ext K_220
              replace hO_18 := hO_18.ext K_220
              replace ho_41 := ho_41.ext K_220
              replace ho_51 := ho_51.ext K_220
              replace ho_64 := ho_64.ext K_220
              replace ho_76 := ho_76.ext K_220
              replace hb_184 := hb_184.ext K_220
              replace ho_199 := ho_199.ext K_220
              replace K0 := K0.ext K_220
              refine ⟨.inr ⟨hb_184, trivial⟩, ?_⟩
              obtain ⟨b_231, o_232, x_235, hx_236, ha_233, hc_234⟩ := ho_218.sl.el (i := k0) (by omega)
              obtain rfl : x = x_235 := Option.some.inj (hx.symm.trans hx_236)
              refine RT.gtakeP (v := .pointer (some ⟨b_231, o_232 + k0 * 3, none⟩)) 6 rfl (by kernel_rfl) (.inr ⟨hb_184, trivial⟩) (wantedF1 rfl rfl rfl rfl) (fun hg _ => (x_idxN Try.underlying32 ty23 rfl rfl ha_233 (by omega))) ?_
              refine RT.gst 7 rfl (by kernel_rfl) (wantedF1 rfl rfl rfl rfl) <| St1.val (x_ldV (v := .agg #[.int .i64 ((x).node), .int .i64 ((x).inc), .int .i64 ((x).status)]) (y := x) ty23 rfl hc_234 rfl) ?_
              refine ⟨.inr ⟨hb_184, trivial⟩, ?_⟩
              refine RT.gtakeP (v := .bool (false)) 9 rfl (by kernel_rfl) (.inr ⟨hb_184, trivial⟩) (wantedF1 rfl rfl rfl rfl) (fun hg _ => (litF (x_neA (by kernel_rfl) rfl rfl (eq_Peer x p)) (by simp [heq]))) ?_
              refine RT.gtakeP (v := .bool (false)) 10 rfl (by kernel_rfl) (.inr ⟨hb_184, trivial⟩) (wantedF1 rfl rfl rfl rfl) (fun hg _ => (x_moveB rfl)) ?_
              refine RT.gtakeP (v := undef) 11 rfl (by kernel_rfl) (.inr ⟨hb_184, trivial⟩) (wantedT0 rfl rfl rfl rfl) (fun hg => by cases hg) ?_
              refine RT.gtakeP (v := undef) 13 rfl (by kernel_rfl) (.inr ⟨hb_184, trivial⟩) (wantedT0 rfl rfl rfl rfl) (fun hg => by cases hg) ?_
              refine RT.gtakeP (v := undef) 16 rfl (by kernel_rfl) (.inr ⟨hb_184, trivial⟩) (wantedT0 rfl rfl rfl rfl) (fun hg => by cases hg) ?_
              refine RT.gT 12 rfl (by kernel_rfl) (wantedT0 rfl rfl rfl rfl) (.inr ⟨hb_184, trivial⟩) ?_
              refine RT.gtakeP (v := undef) 14 rfl (by kernel_rfl) (.inr ⟨hb_184, trivial⟩) (wantedT0 rfl rfl rfl rfl) (fun hg => by cases hg) ?_
              refine RT.gtakeP (v := undef) 15 rfl (by kernel_rfl) (.inr ⟨hb_184, trivial⟩) (wantedT0 rfl rfl rfl rfl) (fun hg => by cases hg) ?_
              refine RT.gT 17 rfl (by kernel_rfl) (wantedT0 rfl rfl rfl rfl) (.inr ⟨hb_184, trivial⟩) ?_
              refine RT.gtakeP (v := undef) 18 rfl (by kernel_rfl) (.inr ⟨hb_184, trivial⟩) (wantedT0 rfl rfl rfl rfl) (fun hg => by cases hg) ?_
              refine RT.gtakeP (v := .bool (false)) 19 rfl (by kernel_rfl) (.inr ⟨hb_184, trivial⟩) (wantedF1 rfl rfl rfl rfl) (fun hg _ => (x_and (b := false) (e := false) rfl rfl rfl)) ?_
              refine RT.takeP (v := .bool (false)) 20 rfl (by kernel_rfl) (.inr ⟨hb_184, trivial⟩) (fun _ => (x_orF rfl rfl rfl)) ?_
              refine RT.done (by kernel_rfl) ?_
              refine Run.condF rfl ?_
              refine Run.skip ?_
              refine Run.inBlock ?_
              refine Run.region ?_
              refine RL.val (litI (c := ((j + 1 : Nat) : Int)) (x_add rfl rfl (by omega) (by omega)) rfl) ?_
              refine RL.val (x_moveI rfl) ?_
              refine RL.nil ?_
              refine ih3 (j + 1) _ _ ?_ (by omega)
              refine ⟨⟨rfl, rfl, rfl, rfl, rfl, rfl, rfl, rfl, rfl, trivial⟩, K0, hb_4, hb_31, hO_18, ho_41, ho_51, ho_64, ho_76, ?_⟩
              · omega
            · refine Run.drawT [] (m := 21) (by kernel_rfl) rfl ?_
              intro w_237 K_238
              replace hb_4 := hb_4.ext K_238
              replace hb_31 := hb_31.ext K_238
              replace hO_18 := hO_18.ext K_238
              replace ho_41 := ho_41.ext K_238
              replace ho_51 := ho_51.ext K_238
              replace ho_64 := ho_64.ext K_238
              replace ho_76 := ho_76.ext K_238
              replace hb_184 := hb_184.ext K_238
              replace ho_199 := ho_199.ext K_238
              replace K0 := K0.ext K_238
              refine ⟨fun w' => Blk w' b_181 [.int .i64 ((p).node), .int .i64 ((p).inc), .int .i64 ((p).status)] 23 ∧ True, ?_⟩
              refine RT.takeP (v := .int .i64 (((k0 : Nat) : Int))) 0 rfl (by kernel_rfl) (.inr ⟨hb_184, trivial⟩) (fun _ => (x_moveI rfl)) ?_
              refine RT.takeP (v := .bool (false)) 1 rfl (by kernel_rfl) (.inr ⟨hb_184, trivial⟩) (fun _ => (litF (x_ltI rfl rfl) (by simp))) ?_
              refine RT.takeP (v := .bool (false)) 2 rfl (by kernel_rfl) (.inr ⟨hb_184, trivial⟩) (fun _ => (x_moveB rfl)) ?_
              refine RT.gtakeP (v := .pointer (some ⟨b_6, 0, none⟩)) 3 rfl (by kernel_rfl) (.inr ⟨hb_184, trivial⟩) (wantedF1 rfl rfl rfl rfl) (fun hg _ => (x_moveP rfl)) ?_
              refine RT.gtakeP (v := .int .i64 (((k0 : Nat) : Int))) 5 rfl (by kernel_rfl) (.inr ⟨hb_184, trivial⟩) (wantedF1 rfl rfl rfl rfl) (fun hg _ => (x_moveI rfl)) ?_
              refine RT.gtake (v := .agg #[.int .i64 ((p).node), .int .i64 ((p).inc), .int .i64 ((p).status)]) 8 rfl (by kernel_rfl) ⟨hb_184, trivial⟩ (wantedF1 rfl rfl rfl rfl) (fun hg => by rintro _ ⟨hb_184, -⟩; exact (x_lds (cs := #[.int .i64 ((p).node), .int .i64 ((p).inc), .int .i64 ((p).status)]) ty23 rfl rfl (hb_184.cl.drop 0 3))) ?_
              refine RT.gst 4 rfl (by kernel_rfl) (wantedF1 rfl rfl rfl rfl) <| St1.call (vals := [.pointer (some ⟨b_6, 0, none⟩)]) en23 rfl (peers_ _ _ _ ((hear T pl ((o).now)).1) _ hO_18.blk hO_18.ok.len) ?_
              rintro _ w_241 ⟨a_239, c_240, rfl, ho_242, hg_243, K_244⟩
              have pr_245 : ¬ own a_239 b_1 := notNew hg_243 hb_4.lt
              have pr_246 : ¬ own a_239 b_28 := notNew hg_243 hb_31.lt
              have pr_247 : ∀ q_, own a_239 q_ → ¬ tabS b_6 alb q_ := apartNew hg_243 hO_18.own_lt
              have pr_248 : ∀ q_, own a_239 q_ → ¬ own a_38 q_ := apartNew hg_243 ho_41.own_lt
              have pr_249 : ∀ q_, own a_239 q_ → ¬ own a_48 q_ := apartNew hg_243 ho_51.own_lt
              have pr_250 : ∀ q_, own a_239 q_ → ¬ own a_61 q_ := apartNew hg_243 ho_64.own_lt
              have pr_251 : ∀ q_, own a_239 q_ → ¬ own a_73 q_ := apartNew hg_243 ho_76.own_lt
              have pr_252 : ¬ own a_239 b_181 := notNew hg_243 hb_184.lt
              have pr_253 : ∀ q_, own a_239 q_ → ¬ own a_196 q_ := apartNew hg_243 ho_199.own_lt
              have pg_254 : ∀ q_, own a_239 q_ → w.heap.size ≤ q_ := fun q_ h => Nat.le_trans K0.size (hg_243 q_ h)
              clear hg_243
              replace hb_4 := hb_4.ext K_244
              replace hb_31 := hb_31.ext K_244
              replace hO_18 := hO_18.ext K_244
              replace ho_41 := ho_41.ext K_244
              replace ho_51 := ho_51.ext K_244
              replace ho_64 := ho_64.ext K_244
              replace ho_76 := ho_76.ext K_244
              replace hb_184 := hb_184.ext K_244
              replace ho_199 := ho_199.ext K_244
              replace K0 := K0.ext K_244
              refine ⟨.inr ⟨hb_184, trivial⟩, ?_⟩
              obtain ⟨b_255, o_256, x_259, hx_260, ha_257, hc_258⟩ := ho_242.sl.el (i := k0) (by omega)
              obtain rfl : x = x_259 := Option.some.inj (hx.symm.trans hx_260)
              refine RT.gtakeP (v := .pointer (some ⟨b_255, o_256 + k0 * 3, none⟩)) 6 rfl (by kernel_rfl) (.inr ⟨hb_184, trivial⟩) (wantedF1 rfl rfl rfl rfl) (fun hg _ => (x_idxN Try.underlying32 ty23 rfl rfl ha_257 (by omega))) ?_
              refine RT.gst 7 rfl (by kernel_rfl) (wantedF1 rfl rfl rfl rfl) <| St1.val (x_ldV (v := .agg #[.int .i64 ((x).node), .int .i64 ((x).inc), .int .i64 ((x).status)]) (y := x) ty23 rfl hc_258 rfl) ?_
              refine ⟨.inr ⟨hb_184, trivial⟩, ?_⟩
              refine RT.gtakeP (v := .bool (true)) 9 rfl (by kernel_rfl) (.inr ⟨hb_184, trivial⟩) (wantedF1 rfl rfl rfl rfl) (fun hg _ => (litT (x_neA (by kernel_rfl) rfl rfl (eq_Peer x p)) (by simp [heq]))) ?_
              refine RT.gtakeP (v := .bool (true)) 10 rfl (by kernel_rfl) (.inr ⟨hb_184, trivial⟩) (wantedF1 rfl rfl rfl rfl) (fun hg _ => (x_moveB rfl)) ?_
              refine RT.gtakeP (v := .pointer (some ⟨b_6, 0, none⟩)) 11 rfl (by kernel_rfl) (.inr ⟨hb_184, trivial⟩) (wantedT1 rfl rfl rfl rfl) (fun hg _ => (x_moveP rfl)) ?_
              refine RT.gtakeP (v := .int .i64 (((k0 : Nat) : Int))) 13 rfl (by kernel_rfl) (.inr ⟨hb_184, trivial⟩) (wantedT1 rfl rfl rfl rfl) (fun hg _ => (x_moveI rfl)) ?_
              refine RT.gtake (v := .agg #[.int .i64 ((p).node), .int .i64 ((p).inc), .int .i64 ((p).status)]) 16 rfl (by kernel_rfl) ⟨hb_184, trivial⟩ (wantedT1 rfl rfl rfl rfl) (fun hg => by rintro _ ⟨hb_184, -⟩; exact (x_lds (cs := #[.int .i64 ((p).node), .int .i64 ((p).inc), .int .i64 ((p).status)]) ty23 rfl rfl (hb_184.cl.drop 0 3))) ?_
              refine RT.gst 12 rfl (by kernel_rfl) (wantedT1 rfl rfl rfl rfl) <| St1.call (vals := [.pointer (some ⟨b_6, 0, none⟩)]) en23 rfl (peers_ _ _ _ ((hear T pl ((o).now)).1) _ hO_18.blk hO_18.ok.len) ?_
              rintro _ w_263 ⟨a_261, c_262, rfl, ho_264, hg_265, K_266⟩
              have pr_267 : ¬ own a_261 b_1 := notNew hg_265 hb_4.lt
              have pr_268 : ¬ own a_261 b_28 := notNew hg_265 hb_31.lt
              have pr_269 : ∀ q_, own a_261 q_ → ¬ tabS b_6 alb q_ := apartNew hg_265 hO_18.own_lt
              have pr_270 : ∀ q_, own a_261 q_ → ¬ own a_38 q_ := apartNew hg_265 ho_41.own_lt
              have pr_271 : ∀ q_, own a_261 q_ → ¬ own a_48 q_ := apartNew hg_265 ho_51.own_lt
              have pr_272 : ∀ q_, own a_261 q_ → ¬ own a_61 q_ := apartNew hg_265 ho_64.own_lt
              have pr_273 : ∀ q_, own a_261 q_ → ¬ own a_73 q_ := apartNew hg_265 ho_76.own_lt
              have pr_274 : ¬ own a_261 b_181 := notNew hg_265 hb_184.lt
              have pr_275 : ∀ q_, own a_261 q_ → ¬ own a_196 q_ := apartNew hg_265 ho_199.own_lt
              have pr_276 : ∀ q_, own a_261 q_ → ¬ own a_239 q_ := apartNew hg_265 ho_242.own_lt
              have pg_277 : ∀ q_, own a_261 q_ → w.heap.size ≤ q_ := fun q_ h => Nat.le_trans K0.size (hg_265 q_ h)
              clear hg_265
              replace hb_4 := hb_4.ext K_266
              replace hb_31 := hb_31.ext K_266
              replace hO_18 := hO_18.ext K_266
              replace ho_41 := ho_41.ext K_266
              replace ho_51 := ho_51.ext K_266
              replace ho_64 := ho_64.ext K_266
              replace ho_76 := ho_76.ext K_266
              replace hb_184 := hb_184.ext K_266
              replace ho_199 := ho_199.ext K_266
              replace ho_242 := ho_242.ext K_266
              replace hc_258 := hc_258.ext K_266
              replace K0 := K0.ext K_266
              refine ⟨.inr ⟨hb_184, trivial⟩, ?_⟩
              obtain ⟨b_278, o_279, x_282, hx_283, ha_280, hc_281⟩ := ho_264.sl.el (i := k0) (by omega)
              obtain rfl : x = x_282 := Option.some.inj (hx.symm.trans hx_283)
              refine RT.gtakeP (v := .pointer (some ⟨b_278, o_279 + k0 * 3, none⟩)) 14 rfl (by kernel_rfl) (.inr ⟨hb_184, trivial⟩) (wantedT1 rfl rfl rfl rfl) (fun hg _ => (x_idxN Try.underlying32 ty23 rfl rfl ha_280 (by omega))) ?_
              refine RT.gst 15 rfl (by kernel_rfl) (wantedT1 rfl rfl rfl rfl) <| St1.val (x_ldV (v := .agg #[.int .i64 ((x).node), .int .i64 ((x).inc), .int .i64 ((x).status)]) (y := x) ty23 rfl hc_281 rfl) ?_
              refine ⟨.inr ⟨hb_184, trivial⟩, ?_⟩
              refine RT.gst 17 rfl (by kernel_rfl) (wantedT1 rfl rfl rfl rfl) <| St1.call (vals := [.agg #[.int .i64 ((x).node), .int .i64 ((x).inc), .int .i64 ((x).status)], .agg #[.int .i64 ((p).node), .int .i64 ((p).inc), .int .i64 ((p).status)]]) en12 rfl (greaterR_ x p _) ?_
              rintro _ w_284 ⟨rfl, K_285⟩
              replace hb_4 := hb_4.ext K_285
              replace hb_31 := hb_31.ext K_285
              replace hO_18 := hO_18.ext K_285
              replace ho_41 := ho_41.ext K_285
              replace ho_51 := ho_51.ext K_285
              replace ho_64 := ho_64.ext K_285
              replace ho_76 := ho_76.ext K_285
              replace hb_184 := hb_184.ext K_285
              replace ho_199 := ho_199.ext K_285
              replace ho_242 := ho_242.ext K_285
              replace hc_258 := hc_258.ext K_285
              replace ho_264 := ho_264.ext K_285
              replace hc_281 := hc_281.ext K_285
              replace K0 := K0.ext K_285
              refine ⟨.inr ⟨hb_184, trivial⟩, ?_⟩
              refine RT.gtakeP (v := .bool (false)) 18 rfl (by kernel_rfl) (.inr ⟨hb_184, trivial⟩) (wantedT1 rfl rfl rfl rfl) (fun hg _ => (litF (x_not rfl) (by rcases hn2 x (mem_of_at hx) hxn with h | h <;> simp_all))) ?_
              refine RT.gtakeP (v := .bool (false)) 19 rfl (by kernel_rfl) (.inr ⟨hb_184, trivial⟩) (wantedF1 rfl rfl rfl rfl) (fun hg _ => (x_andT rfl rfl rfl)) ?_
              refine RT.takeP (v := .bool (false)) 20 rfl (by kernel_rfl) (.inr ⟨hb_184, trivial⟩) (fun _ => (x_orF rfl rfl rfl)) ?_
              refine RT.done (by kernel_rfl) ?_
              refine Run.condF rfl ?_
              refine Run.skip ?_
              refine Run.inBlock ?_
              refine Run.region ?_
              refine RL.val (litI (c := ((j + 1 : Nat) : Int)) (x_add rfl rfl (by omega) (by omega)) rfl) ?_
              refine RL.val (x_moveI rfl) ?_
              refine RL.nil ?_
              refine ih3 (j + 1) _ _ ?_ (by omega)
              refine ⟨⟨rfl, rfl, rfl, rfl, rfl, rfl, rfl, rfl, rfl, trivial⟩, K0, hb_4, hb_31, hO_18, ho_41, ho_51, ho_64, ho_76, ?_⟩
              · omega
          · try simp only [br] at hc118
            refine Run.exit rfl ?_
            refine Run.seq ?_
            have hse2 := never_self hok1 hN1 hn
            refine Run.region ?_
            refine RL.val (x_moveP rfl) ?_
            refine RL.val (x_ld (v := .int .i64 (n)) ty3 rfl rfl (hb_4.cl.field (i := 0) rfl)) ?_
            refine RL.st rfl <| St1.call (vals := [.pointer (some ⟨b_6, 0, none⟩), .int .i64 (n)]) en17 rfl (status_ _ _ _ ((hear T pl ((o).now)).1) n _ hO_18.blk hO_18.ok.len) ?_
            rintro _ w_286 ⟨rfl, K_287⟩
            replace hb_4 := hb_4.ext K_287
            replace hb_31 := hb_31.ext K_287
            replace hO_18 := hO_18.ext K_287
            replace ho_41 := ho_41.ext K_287
            replace ho_51 := ho_51.ext K_287
            replace ho_64 := ho_64.ext K_287
            replace ho_76 := ho_76.ext K_287
            replace K0 := K0.ext K_287
            refine RL.val (litF (x_neI rfl rfl) (by rw [hse2.2]; rfl)) ?_
            refine RL.nil ?_
            refine Run.condF rfl ?_
            refine Run.skip ?_
            refine Run.inBlock ?_
            refine Run.region ?_
            refine RL.val (litI (c := ((i + 1 : Nat) : Int)) (x_add rfl rfl (by omega) (by omega)) rfl) ?_
            refine RL.val (x_moveI rfl) ?_
            refine RL.nil ?_
            refine ih1 (i + 1) _ _ ?_ (by omega)
            refine ⟨_, _, _, ⟨rfl, rfl, rfl, rfl, rfl, trivial⟩, K0, hb_4, hO_18, pr_19, pr_20, ?_, ?_, ?_⟩
            · omega
            · exact hN1
            · omega
      · try simp only [br] at hc56
        refine Run.seq ?_
        refine Run.seq ?_
        refine Run.region ?_
        refine RL.val (x_eqI rfl rfl) ?_
        refine RL.val (x_assignB rfl) ?_
        refine RL.nil ?_
        refine Run.cond rfl (fun hc108 => ?_) (fun hc108 => ?_)
        · try simp only [br] at hc108
          refine Run.skip ?_
          refine Run.cond rfl (fun hc108 => ?_) (fun hc108 => ?_)
          · try simp only [br] at hc108
            refine Run.region ?_
            refine RL.val (x_moveP rfl) ?_
            refine RL.val (x_fld (o' := 1) Try.underlying65 rfl ty3 rfl rfl rfl) ?_
            refine RL.val (x_ld (v := .int .i64 ((o).now)) ty3 rfl rfl (hb_31.cl.field (i := 1) rfl)) ?_
            refine RL.st rfl <| St1.call (vals := [.pointer (some ⟨b_6, 0, none⟩), .int .i64 ((o).now)]) en16 rfl (tick_ _ _ _ T ((o).now) _ hO_18 (by omega) (by omega)) ?_
            rintro _ w_290 ⟨al_288, cl_289, a_294, c_295, a_296, c_297, rfl, hT_291, ho_298, ho_299, hg_300, hg_301, pr_302, pr_303, pr_304, hm_292, K_293⟩
            have pr_305 : ¬ own a_294 b_1 := notNew hg_300 hb_4.lt
            have pr_306 : ∀ q_, own a_294 q_ → ¬ tabS b_6 alb q_ := apartNew hg_300 hO_18.own_lt
            have pr_307 : ¬ own a_294 b_28 := notNew hg_300 hb_31.lt
            have pr_308 : ∀ q_, own a_294 q_ → ¬ own a_38 q_ := apartNew hg_300 ho_41.own_lt
            have pr_309 : ∀ q_, own a_294 q_ → ¬ own a_48 q_ := apartNew hg_300 ho_51.own_lt
            have pg_310 : ∀ q_, own a_294 q_ → w.heap.size ≤ q_ := fun q_ h => Nat.le_trans K0.size (hg_300 q_ h)
            have pr_311 : ¬ own a_296 b_1 := notNew hg_301 hb_4.lt
            have pr_312 : ∀ q_, own a_296 q_ → ¬ tabS b_6 alb q_ := apartNew hg_301 hO_18.own_lt
            have pr_313 : ¬ own a_296 b_28 := notNew hg_301 hb_31.lt
            have pr_314 : ∀ q_, own a_296 q_ → ¬ own a_38 q_ := apartNew hg_301 ho_41.own_lt
            have pr_315 : ∀ q_, own a_296 q_ → ¬ own a_48 q_ := apartNew hg_301 ho_51.own_lt
            have pg_316 : ∀ q_, own a_296 q_ → w.heap.size ≤ q_ := fun q_ h => Nat.le_trans K0.size (hg_301 q_ h)
            have pr_317 : ¬ tabS b_6 al_288 b_1 := hm_292.not pr_19 hb_4.lt
            have pr_318 : ¬ tabS b_6 al_288 b_28 := hm_292.not pr_35 hb_31.lt
            have pr_319 : ∀ q_, tabS b_6 al_288 q_ → ¬ own a_38 q_ := hm_292.apart (fun q_ h1 h2 => pr_45 q_ h2 h1) ho_41.own_lt
            have pr_320 : ∀ q_, tabS b_6 al_288 q_ → ¬ own a_48 q_ := hm_292.apart (fun q_ h1 h2 => pr_55 q_ h2 h1) ho_51.own_lt
            have pg_321 : ∀ q_, tabS b_6 al_288 q_ → w.heap.size ≤ q_ := hm_292.ge pr_20 K0.size
            replace hb_4 := hb_4.keep K_293 pr_19
            replace hb_31 := hb_31.keep K_293 pr_35
            replace ho_41 := ho_41.keepO K_293 pr_45
            replace ho_51 := ho_51.keepO K_293 pr_55
            replace K0 := K0.new K_293 pr_20
            clear hm_292
            clear hg_300 hg_301
            refine RL.nil ?_
            obtain ⟨hN1, hG⟩ := nev_tick (t := o.now) hok hN (by omega)
            have hok1 := hT_291.ok
            have hpL1 := peersL_len ((tick T ((o).now)).T).l
            have hl81 := hok1.len
            have hpl3 := (tick_ok (t := o.now) hok (by omega)).2.2.2
            refine Run.inBlock ?_
            refine Run.seq ?_
            refine Run.seq ?_
            refine Run.region ?_
            refine RL.val (x_moveSl rfl) ?_
            refine RL.val (x_lenSl Try.underlying32 rfl) ?_
            refine RL.val (x_moveI rfl) ?_
            refine RL.nil ?_
            refine Run.block ?_
            refine Run.loop (ι := Nat) (fun j ρ' w' => Holds ρ' [(2, .pointer (some ⟨b_1, 0, none⟩)), (5, .pointer (some ⟨b_6, 0, none⟩)), (33, .slice (as0) (script.length) (cs0)), (34, .int .i64 (((script.length : Nat) : Int))), (35, .int .i64 (((i : Nat) : Int))), (36, .bool (decide (((i : Nat) : Int) < ((script.length : Nat) : Int)))), (115, .slice (a_48) ((peersL T.l).length) (c_49)), (116, .int .i64 ((((peersL T.l).length : Nat) : Int))), (117, .int .i64 (((j : Nat) : Int)))] ∧ Ext w w' ∧ (Blk w' b_1 [.int .i64 (n)] 3) ∧ (Blk w' b_28 [.int .i64 ((o).op), .int .i64 ((o).now), .slice ((o).peers.a) ((o).peers.len) ((o).peers.cap), .int .i64 ((o).kind), .int .i64 ((o).frm), .int .i64 ((o).req), .int .i64 ((o).owner), .int .i64 ((o).n)] 65) ∧ (OwnSl w' 23 (a_38) (c_39) (peersL T.l)) ∧ (OwnSl w' 23 (a_48) (c_49) (peersL T.l)) ∧ (TabAt w' b_6 al_288 cl_289 ((tick T ((o).now)).T)) ∧ (OwnSl w' 61 (a_294) (c_295) ((tick T ((o).now)).out)) ∧ (OwnSl w' 23 (a_296) (c_297) ((tick T ((o).now)).told)) ∧ (j ≤ (peersL T.l).length)) (fun j => (peersL T.l).length - j) 0 ?_ ?_
            · refine ⟨⟨rfl, rfl, rfl, rfl, rfl, rfl, rfl, rfl, rfl, trivial⟩, K0, hb_4, hb_31, ho_41, ho_51, hT_291, ho_298, ho_299, ?_⟩
              · omega
            clear hb_4 hb_31 ho_41 ho_51 hT_291 ho_298 ho_299
            clear K0
            rintro j ρ_324 w_322 ⟨hH_323, K0, hb_4, hb_31, ho_41, ho_51, hT_291, ho_298, ho_299, hj⟩ ih4
            obtain ⟨ρ₀, rfl⟩ := hH_323.ex
            clear hH_323
            refine Run.seq ?_
            refine Run.region ?_
            refine RL.val (x_ltI rfl rfl) ?_
            refine RL.nil ?_
            refine Run.seq ?_
            refine Run.cond rfl (fun hc118 => ?_) (fun hc118 => ?_)
            · try simp only [br] at hc118
              refine Run.skip ?_
              refine Run.seq ?_
              refine Run.block ?_
              refine Run.seq ?_
              refine Run.region ?_
              obtain ⟨b_325, o_326, p, hp, ha_327, hc_328⟩ := ho_51.sl.el (i := j) (by first | omega | (simp only [List.length_set]; omega))
              refine RL.val (x_idxN Try.underlying32 ty23 rfl rfl ha_327 (by first | omega | (simp only [List.length_set]; omega))) ?_
              refine RL.val (x_ldV (v := .agg #[.int .i64 ((p).node), .int .i64 ((p).inc), .int .i64 ((p).status)]) (y := p) ty23 rfl hc_328 rfl) ?_
              refine RL.st rfl <| St1.alloc ty23 ?_
              intro b_331 w_332 hl_335 hb_334 K_333
              replace hb_334 : Blk w_332 b_331 [.int .i64 (0), .int .i64 (0), .int .i64 (0)] 23 := hb_334
              have ne_336 : b_1 < b_331 := Nat.lt_of_lt_of_le hb_4.lt hl_335
              have ne_337 : b_28 < b_331 := Nat.lt_of_lt_of_le hb_31.lt hl_335
              have ne_338 : b_325 < b_331 := Nat.lt_of_lt_of_le hc_328.lt hl_335
              have pr_339 : ¬ own a_38 b_331 := fun h => absurd (ho_41.own_lt _ h) (by omega)
              have pr_340 : ¬ own a_48 b_331 := fun h => absurd (ho_51.own_lt _ h) (by omega)
              have pr_341 : ¬ tabS b_6 al_288 b_331 := fun h => absurd (hT_291.own_lt _ h) (by omega)
              have pr_342 : ¬ own a_294 b_331 := fun h => absurd (ho_298.own_lt _ h) (by omega)
              have pr_343 : ¬ own a_296 b_331 := fun h => absurd (ho_299.own_lt _ h) (by omega)
              have : w.heap.size ≤ b_331 := Nat.le_trans K0.size hl_335
              clear hl_335
              replace hb_4 := hb_4.ext K_333
              replace hb_31 := hb_31.ext K_333
              replace ho_41 := ho_41.ext K_333
              replace ho_51 := ho_51.ext K_333
              replace hT_291 := hT_291.ext K_333
              replace ho_298 := ho_298.ext K_333
              replace ho_299 := ho_299.ext K_333
              replace hc_328 := hc_328.ext K_333
              replace K0 := K0.ext K_333
              refine RL.st rfl <| St1.store (v := .agg #[.int .i64 ((p).node), .int .i64 ((p).inc), .int .i64 ((p).status)]) ty23 rfl rfl rfl (by simp [Value.cells, Value.oneCell']) hb_334 (by simp) ?_
              intro w_344 hb_334_ K_345
              have hb_334' : Blk w_344 b_331 [.int .i64 ((p).node), .int .i64 ((p).inc), .int .i64 ((p).status)] 23 := hb_334_
              clear hb_334_
              replace hb_4 := hb_4.keep K_345 (by simp only [one]; omega)
              replace hb_31 := hb_31.keep K_345 (by simp only [one]; omega)
              replace ho_41 := ho_41.keepO K_345 (fun q_ hq_ eq_ => pr_339 (by simp only [one] at eq_; rw [← eq_]; exact hq_))
              replace ho_51 := ho_51.keepO K_345 (fun q_ hq_ eq_ => pr_340 (by simp only [one] at eq_; rw [← eq_]; exact hq_))
              replace hT_291 := hT_291.keepO K_345 (fun q_ hq_ eq_ => pr_341 (by simp only [one] at eq_; rw [← eq_]; exact hq_))
              replace ho_298 := ho_298.keepO K_345 (fun q_ hq_ eq_ => pr_342 (by simp only [one] at eq_; rw [← eq_]; exact hq_))
              replace ho_299 := ho_299.keepO K_345 (fun q_ hq_ eq_ => pr_343 (by simp only [one] at eq_; rw [← eq_]; exact hq_))
              replace hc_328 := hc_328.keep K_345 (fun e => pr_340 (by simp only [one] at e; rw [← e]; exact (own_sub _) _ ha_327))
              replace K0 := K0.new K_345 (fun x hx => by simp only [one] at hx; omega)
              replace hb_334 := hb_334'
              clear hb_334'
              refine RL.nil ?_
              refine Run.seq ?_
              obtain ⟨hn1, hn2⟩ := never_one hok hok1 hG (mem_of_at hp)
              refine Run.region ?_
              refine RL.val (x_moveP rfl) ?_
              refine RL.st rfl <| St1.call (vals := [.pointer (some ⟨b_6, 0, none⟩)]) en23 rfl (peers_ _ _ _ ((tick T ((o).now)).T) _ hT_291.blk hT_291.ok.len) ?_
              rintro _ w_348 ⟨a_346, c_347, rfl, ho_349, hg_350, K_351⟩
              have pr_352 : ¬ own a_346 b_1 := notNew hg_350 hb_4.lt
              have pr_353 : ¬ own a_346 b_28 := notNew hg_350 hb_31.lt
              have pr_354 : ∀ q_, own a_346 q_ → ¬ own a_38 q_ := apartNew hg_350 ho_41.own_lt
              have pr_355 : ∀ q_, own a_346 q_ → ¬ own a_48 q_ := apartNew hg_350 ho_51.own_lt
              have pr_356 : ∀ q_, own a_346 q_ → ¬ tabS b_6 al_288 q_ := apartNew hg_350 hT_291.own_lt
              have pr_357 : ∀ q_, own a_346 q_ → ¬ own a_294 q_ := apartNew hg_350 ho_298.own_lt
              have pr_358 : ∀ q_, own a_346 q_ → ¬ own a_296 q_ := apartNew hg_350 ho_299.own_lt
              have pr_359 : ¬ own a_346 b_331 := notNew hg_350 hb_334.lt
              have pg_360 : ∀ q_, own a_346 q_ → w.heap.size ≤ q_ := fun q_ h => Nat.le_trans K0.size (hg_350 q_ h)
              clear hg_350
              replace hb_4 := hb_4.ext K_351
              replace hb_31 := hb_31.ext K_351
              replace ho_41 := ho_41.ext K_351
              replace ho_51 := ho_51.ext K_351
              replace hT_291 := hT_291.ext K_351
              replace ho_298 := ho_298.ext K_351
              replace ho_299 := ho_299.ext K_351
              replace hb_334 := hb_334.ext K_351
              replace K0 := K0.ext K_351
              refine RL.val (x_mkFunc (a := []) (c := [.pointer (some ⟨b_331, 0, none⟩)]) rfl rfl) ?_
              refine RL.st rfl <| St1.call (vals := [.slice (a_346) ((peersL ((tick T ((o).now)).T).l).length) (c_347), .func (.func 31) #[] #[.pointer (some ⟨b_331, 0, none⟩)]]) en28 rfl (indexFunc_peer _ _ _ 31 _ (fun x => x.node == p.node) en31 _ ho_349.sl (by omega) (fun x _ w' K' => nev2 x b_331 p w' (hb_334.ext K'))) ?_
              rintro _ w_361 ⟨rfl, K_362⟩
              replace hb_4 := hb_4.ext K_362
              replace hb_31 := hb_31.ext K_362
              replace ho_41 := ho_41.ext K_362
              replace ho_51 := ho_51.ext K_362
              replace hT_291 := hT_291.ext K_362
              replace ho_298 := ho_298.ext K_362
              replace ho_299 := ho_299.ext K_362
              replace hb_334 := hb_334.ext K_362
              replace ho_349 := ho_349.ext K_362
              replace K0 := K0.ext K_362
              refine RL.val (x_assignI rfl) ?_
              refine RL.nil ?_
              obtain ⟨k0, hk0, hkl0, hkp0, _⟩ := findI_some (p := (fun x : Peer => x.node == p.node)) (xs := (peersL ((tick T ((o).now)).T).l)) rfl hn1
              rw [hk0]
              obtain ⟨x, hx⟩ : ∃ x, (peersL ((tick T ((o).now)).T).l)[k0]? = some x := ⟨_, List.getElem?_eq_getElem hkl0⟩
              have hxn : x.node = p.node := by have := hkp0 x hx; simpa using this
              refine Run.seq ?_
              by_cases heq : x = p
              · refine Run.drawT [] (m := 21) (by kernel_rfl) rfl ?_
                intro w_363 K_364
                replace hb_4 := hb_4.ext K_364
                replace hb_31 := hb_31.ext K_364
                replace ho_41 := ho_41.ext K_364
                replace ho_51 := ho_51.ext K_364
                replace hT_291 := hT_291.ext K_364
                replace ho_298 := ho_298.ext K_364
                replace ho_299 := ho_299.ext K_364
                replace hb_334 := hb_334.ext K_364
                replace ho_349 := ho_349.ext K_364
                replace K0 := K0.ext K_364
                refine ⟨fun w' => Blk w' b_331 [.int .i64 ((p).node), .int .i64 ((p).inc), .int .i64 ((p).status)] 23 ∧ True, ?_⟩
                refine RT.takeP (v := .int .i64 (((k0 : Nat) : Int))) 0 rfl (by kernel_rfl) (.inr ⟨hb_334, trivial⟩) (fun _ => (x_moveI rfl)) ?_
                refine RT.takeP (v := .bool (false)) 1 rfl (by kernel_rfl) (.inr ⟨hb_334, trivial⟩) (fun _ => (litF (x_ltI rfl rfl) (by simp))) ?_
                refine RT.takeP (v := .bool (false)) 2 rfl (by kernel_rfl) (.inr ⟨hb_334, trivial⟩) (fun _ => (x_moveB rfl)) ?_
                refine RT.gtakeP (v := .pointer (some ⟨b_6, 0, none⟩)) 3 rfl (by kernel_rfl) (.inr ⟨hb_334, trivial⟩) (wantedF1 rfl rfl rfl rfl) (fun hg _ => (x_moveP rfl)) ?_
                refine RT.gtakeP (v := .int .i64 (((k0 : Nat) : Int))) 5 rfl (by kernel_rfl) (.inr ⟨hb_334, trivial⟩) (wantedF1 rfl rfl rfl rfl) (fun hg _ => (x_moveI rfl)) ?_
                refine RT.gtake (v := .agg #[.int .i64 ((p).node), .int .i64 ((p).inc), .int .i64 ((p).status)]) 8 rfl (by kernel_rfl) ⟨hb_334, trivial⟩ (wantedF1 rfl rfl rfl rfl) (fun hg => by rintro _ ⟨hb_334, -⟩; exact (x_lds (cs := #[.int .i64 ((p).node), .int .i64 ((p).inc), .int .i64 ((p).status)]) ty23 rfl rfl (hb_334.cl.drop 0 3))) ?_
                refine RT.gst 4 rfl (by kernel_rfl) (wantedF1 rfl rfl rfl rfl) <| St1.call (vals := [.pointer (some ⟨b_6, 0, none⟩)]) en23 rfl (peers_ _ _ _ ((tick T ((o).now)).T) _ hT_291.blk hT_291.ok.len) ?_
                rintro _ w_367 ⟨a_365, c_366, rfl, ho_368, hg_369, K_370⟩
                have pr_371 : ¬ own a_365 b_1 := notNew hg_369 hb_4.lt
                have pr_372 : ¬ own a_365 b_28 := notNew hg_369 hb_31.lt
                have pr_373 : ∀ q_, own a_365 q_ → ¬ own a_38 q_ := apartNew hg_369 ho_41.own_lt
                have pr_374 : ∀ q_, own a_365 q_ → ¬ own a_48 q_ := apartNew hg_369 ho_51.own_lt
                have pr_375 : ∀ q_, own a_365 q_ → ¬ tabS b_6 al_288 q_ := apartNew hg_369 hT_291.own_lt
                have pr_376 : ∀ q_, own a_365 q_ → ¬ own a_294 q_ := apartNew hg_369 ho_298.own_lt
                have pr_377 : ∀ q_, own a_365 q_ → ¬ own a_296 q_ := apartNew hg_369 ho_299.own_lt
                have pr_378 : ¬ own a_365 b_331 := notNew hg_369 hb_334.lt
                have pr_379 : ∀ q_, own a_365 q_ → ¬ own a_346 q_ := apartNew hg_369 ho_349.own_lt
                have pg_380 : ∀ q_, own a_365 q_ → w.heap.size ≤ q_ := fun q_ h => Nat.le_trans K0.size (hg_369 q_ h)
                clear hg_369
                replace hb_4 := hb_4.ext K_370
                replace hb_31 := hb_31.ext K_370
                replace ho_41 := ho_41.ext K_370
                replace ho_51 := ho_51.ext K_370
                replace hT_291 := hT_291.ext K_370
                replace ho_298 := ho_298.ext K_370
                replace ho_299 := ho_299.ext K_370
                replace hb_334 := hb_334.ext K_370
                replace ho_349 := ho_349.ext K_370
                replace K0 := K0.ext K_370
                refine ⟨.inr ⟨hb_334, trivial⟩, ?_⟩
                obtain ⟨b_381, o_382, x_385, hx_386, ha_383, hc_384⟩ := ho_368.sl.el (i := k0) (by omega)
                obtain rfl : x = x_385 := Option.some.inj (hx.symm.trans hx_386)
                refine RT.gtakeP (v := .pointer (some ⟨b_381, o_382 + k0 * 3, none⟩)) 6 rfl (by kernel_rfl) (.inr ⟨hb_334, trivial⟩) (wantedF1 rfl rfl rfl rfl) (fun hg _ => (x_idxN Try.underlying32 ty23 rfl rfl ha_383 (by omega))) ?_
                refine RT.gst 7 rfl (by kernel_rfl) (wantedF1 rfl rfl rfl rfl) <| St1.val (x_ldV (v := .agg #[.int .i64 ((x).node), .int .i64 ((x).inc), .int .i64 ((x).status)]) (y := x) ty23 rfl hc_384 rfl) ?_
                refine ⟨.inr ⟨hb_334, trivial⟩, ?_⟩
                refine RT.gtakeP (v := .bool (false)) 9 rfl (by kernel_rfl) (.inr ⟨hb_334, trivial⟩) (wantedF1 rfl rfl rfl rfl) (fun hg _ => (litF (x_neA (by kernel_rfl) rfl rfl (eq_Peer x p)) (by simp [heq]))) ?_
                refine RT.gtakeP (v := .bool (false)) 10 rfl (by kernel_rfl) (.inr ⟨hb_334, trivial⟩) (wantedF1 rfl rfl rfl rfl) (fun hg _ => (x_moveB rfl)) ?_
                refine RT.gtakeP (v := undef) 11 rfl (by kernel_rfl) (.inr ⟨hb_334, trivial⟩) (wantedT0 rfl rfl rfl rfl) (fun hg => by cases hg) ?_
                refine RT.gtakeP (v := undef) 13 rfl (by kernel_rfl) (.inr ⟨hb_334, trivial⟩) (wantedT0 rfl rfl rfl rfl) (fun hg => by cases hg) ?_
                refine RT.gtakeP (v := undef) 16 rfl (by kernel_rfl) (.inr ⟨hb_334, trivial⟩) (wantedT0 rfl rfl rfl rfl) (fun hg => by cases hg) ?_
                refine RT.gT 12 rfl (by kernel_rfl) (wantedT0 rfl rfl rfl rfl) (.inr ⟨hb_334, trivial⟩) ?_
                refine RT.gtakeP (v := undef) 14 rfl (by kernel_rfl) (.inr ⟨hb_334, trivial⟩) (wantedT0 rfl rfl rfl rfl) (fun hg => by cases hg) ?_
                refine RT.gtakeP (v := undef) 15 rfl (by kernel_rfl) (.inr ⟨hb_334, trivial⟩) (wantedT0 rfl rfl rfl rfl) (fun hg => by cases hg) ?_
                refine RT.gT 17 rfl (by kernel_rfl) (wantedT0 rfl rfl rfl rfl) (.inr ⟨hb_334, trivial⟩) ?_
                refine RT.gtakeP (v := undef) 18 rfl (by kernel_rfl) (.inr ⟨hb_334, trivial⟩) (wantedT0 rfl rfl rfl rfl) (fun hg => by cases hg) ?_
                refine RT.gtakeP (v := .bool (false)) 19 rfl (by kernel_rfl) (.inr ⟨hb_334, trivial⟩) (wantedF1 rfl rfl rfl rfl) (fun hg _ => (x_and (b := false) (e := false) rfl rfl rfl)) ?_
                refine RT.takeP (v := .bool (false)) 20 rfl (by kernel_rfl) (.inr ⟨hb_334, trivial⟩) (fun _ => (x_orF rfl rfl rfl)) ?_
                refine RT.done (by kernel_rfl) ?_
                refine Run.condF rfl ?_
                refine Run.skip ?_
                refine Run.inBlock ?_
                refine Run.region ?_
                refine RL.val (litI (c := ((j + 1 : Nat) : Int)) (x_add rfl rfl (by omega) (by omega)) rfl) ?_
                refine RL.val (x_moveI rfl) ?_
                refine RL.nil ?_
                refine ih4 (j + 1) _ _ ?_ (by omega)
                refine ⟨⟨rfl, rfl, rfl, rfl, rfl, rfl, rfl, rfl, rfl, trivial⟩, K0, hb_4, hb_31, ho_41, ho_51, hT_291, ho_298, ho_299, ?_⟩
                · omega
              · refine Run.drawT [] (m := 21) (by kernel_rfl) rfl ?_
                intro w_387 K_388
                replace hb_4 := hb_4.ext K_388
                replace hb_31 := hb_31.ext K_388
                replace ho_41 := ho_41.ext K_388
                replace ho_51 := ho_51.ext K_388
                replace hT_291 := hT_291.ext K_388
                replace ho_298 := ho_298.ext K_388
                replace ho_299 := ho_299.ext K_388
                replace hb_334 := hb_334.ext K_388
                replace ho_349 := ho_349.ext K_388
                replace K0 := K0.ext K_388
                refine ⟨fun w' => Blk w' b_331 [.int .i64 ((p).node), .int .i64 ((p).inc), .int .i64 ((p).status)] 23 ∧ True, ?_⟩
                refine RT.takeP (v := .int .i64 (((k0 : Nat) : Int))) 0 rfl (by kernel_rfl) (.inr ⟨hb_334, trivial⟩) (fun _ => (x_moveI rfl)) ?_
                refine RT.takeP (v := .bool (false)) 1 rfl (by kernel_rfl) (.inr ⟨hb_334, trivial⟩) (fun _ => (litF (x_ltI rfl rfl) (by simp))) ?_
                refine RT.takeP (v := .bool (false)) 2 rfl (by kernel_rfl) (.inr ⟨hb_334, trivial⟩) (fun _ => (x_moveB rfl)) ?_
                refine RT.gtakeP (v := .pointer (some ⟨b_6, 0, none⟩)) 3 rfl (by kernel_rfl) (.inr ⟨hb_334, trivial⟩) (wantedF1 rfl rfl rfl rfl) (fun hg _ => (x_moveP rfl)) ?_
                refine RT.gtakeP (v := .int .i64 (((k0 : Nat) : Int))) 5 rfl (by kernel_rfl) (.inr ⟨hb_334, trivial⟩) (wantedF1 rfl rfl rfl rfl) (fun hg _ => (x_moveI rfl)) ?_
                refine RT.gtake (v := .agg #[.int .i64 ((p).node), .int .i64 ((p).inc), .int .i64 ((p).status)]) 8 rfl (by kernel_rfl) ⟨hb_334, trivial⟩ (wantedF1 rfl rfl rfl rfl) (fun hg => by rintro _ ⟨hb_334, -⟩; exact (x_lds (cs := #[.int .i64 ((p).node), .int .i64 ((p).inc), .int .i64 ((p).status)]) ty23 rfl rfl (hb_334.cl.drop 0 3))) ?_
                refine RT.gst 4 rfl (by kernel_rfl) (wantedF1 rfl rfl rfl rfl) <| St1.call (vals := [.pointer (some ⟨b_6, 0, none⟩)]) en23 rfl (peers_ _ _ _ ((tick T ((o).now)).T) _ hT_291.blk hT_291.ok.len) ?_
                rintro _ w_391 ⟨a_389, c_390, rfl, ho_392, hg_393, K_394⟩
                have pr_395 : ¬ own a_389 b_1 := notNew hg_393 hb_4.lt
                have pr_396 : ¬ own a_389 b_28 := notNew hg_393 hb_31.lt
                have pr_397 : ∀ q_, own a_389 q_ → ¬ own a_38 q_ := apartNew hg_393 ho_41.own_lt
                have pr_398 : ∀ q_, own a_389 q_ → ¬ own a_48 q_ := apartNew hg_393 ho_51.own_lt
                have pr_399 : ∀ q_, own a_389 q_ → ¬ tabS b_6 al_288 q_ := apartNew hg_393 hT_291.own_lt
                have pr_400 : ∀ q_, own a_389 q_ → ¬ own a_294 q_ := apartNew hg_393 ho_298.own_lt
                have pr_401 : ∀ q_, own a_389 q_ → ¬ own a_296 q_ := apartNew hg_393 ho_299.own_lt
                have pr_402 : ¬ own a_389 b_331 := notNew hg_393 hb_334.lt
                have pr_403 : ∀ q_, own a_389 q_ → ¬ own a_346 q_ := apartNew hg_393 ho_349.own_lt
                have pg_404 : ∀ q_, own a_389 q_ → w.heap.size ≤ q_ := fun q_ h => Nat.le_trans K0.size (hg_393 q_ h)
                clear hg_393
                replace hb_4 := hb_4.ext K_394
                replace hb_31 := hb_31.ext K_394
                replace ho_41 := ho_41.ext K_394
                replace ho_51 := ho_51.ext K_394
                replace hT_291 := hT_291.ext K_394
                replace ho_298 := ho_298.ext K_394
                replace ho_299 := ho_299.ext K_394
                replace hb_334 := hb_334.ext K_394
                replace ho_349 := ho_349.ext K_394
                replace K0 := K0.ext K_394
                refine ⟨.inr ⟨hb_334, trivial⟩, ?_⟩
                obtain ⟨b_405, o_406, x_409, hx_410, ha_407, hc_408⟩ := ho_392.sl.el (i := k0) (by omega)
                obtain rfl : x = x_409 := Option.some.inj (hx.symm.trans hx_410)
                refine RT.gtakeP (v := .pointer (some ⟨b_405, o_406 + k0 * 3, none⟩)) 6 rfl (by kernel_rfl) (.inr ⟨hb_334, trivial⟩) (wantedF1 rfl rfl rfl rfl) (fun hg _ => (x_idxN Try.underlying32 ty23 rfl rfl ha_407 (by omega))) ?_
                refine RT.gst 7 rfl (by kernel_rfl) (wantedF1 rfl rfl rfl rfl) <| St1.val (x_ldV (v := .agg #[.int .i64 ((x).node), .int .i64 ((x).inc), .int .i64 ((x).status)]) (y := x) ty23 rfl hc_408 rfl) ?_
                refine ⟨.inr ⟨hb_334, trivial⟩, ?_⟩
                refine RT.gtakeP (v := .bool (true)) 9 rfl (by kernel_rfl) (.inr ⟨hb_334, trivial⟩) (wantedF1 rfl rfl rfl rfl) (fun hg _ => (litT (x_neA (by kernel_rfl) rfl rfl (eq_Peer x p)) (by simp [heq]))) ?_
                refine RT.gtakeP (v := .bool (true)) 10 rfl (by kernel_rfl) (.inr ⟨hb_334, trivial⟩) (wantedF1 rfl rfl rfl rfl) (fun hg _ => (x_moveB rfl)) ?_
                refine RT.gtakeP (v := .pointer (some ⟨b_6, 0, none⟩)) 11 rfl (by kernel_rfl) (.inr ⟨hb_334, trivial⟩) (wantedT1 rfl rfl rfl rfl) (fun hg _ => (x_moveP rfl)) ?_
                refine RT.gtakeP (v := .int .i64 (((k0 : Nat) : Int))) 13 rfl (by kernel_rfl) (.inr ⟨hb_334, trivial⟩) (wantedT1 rfl rfl rfl rfl) (fun hg _ => (x_moveI rfl)) ?_
                refine RT.gtake (v := .agg #[.int .i64 ((p).node), .int .i64 ((p).inc), .int .i64 ((p).status)]) 16 rfl (by kernel_rfl) ⟨hb_334, trivial⟩ (wantedT1 rfl rfl rfl rfl) (fun hg => by rintro _ ⟨hb_334, -⟩; exact (x_lds (cs := #[.int .i64 ((p).node), .int .i64 ((p).inc), .int .i64 ((p).status)]) ty23 rfl rfl (hb_334.cl.drop 0 3))) ?_
                refine RT.gst 12 rfl (by kernel_rfl) (wantedT1 rfl rfl rfl rfl) <| St1.call (vals := [.pointer (some ⟨b_6, 0, none⟩)]) en23 rfl (peers_ _ _ _ ((tick T ((o).now)).T) _ hT_291.blk hT_291.ok.len) ?_
                rintro _ w_413 ⟨a_411, c_412, rfl, ho_414, hg_415, K_416⟩
                have pr_417 : ¬ own a_411 b_1 := notNew hg_415 hb_4.lt
                have pr_418 : ¬ own a_411 b_28 := notNew hg_415 hb_31.lt
                have pr_419 : ∀ q_, own a_411 q_ → ¬ own a_38 q_ := apartNew hg_415 ho_41.own_lt
                have pr_420 : ∀ q_, own a_411 q_ → ¬ own a_48 q_ := apartNew hg_415 ho_51.own_lt
                have pr_421 : ∀ q_, own a_411 q_ → ¬ tabS b_6 al_288 q_ := apartNew hg_415 hT_291.own_lt
                have pr_422 : ∀ q_, own a_411 q_ → ¬ own a_294 q_ := apartNew hg_415 ho_298.own_lt
                have pr_423 : ∀ q_, own a_411 q_ → ¬ own a_296 q_ := apartNew hg_415 ho_299.own_lt
                have pr_424 : ¬ own a_411 b_331 := notNew hg_415 hb_334.lt
                have pr_425 : ∀ q_, own a_411 q_ → ¬ own a_346 q_ := apartNew hg_415 ho_349.own_lt
                have pr_426 : ∀ q_, own a_411 q_ → ¬ own a_389 q_ := apartNew hg_415 ho_392.own_lt
                have pg_427 : ∀ q_, own a_411 q_ → w.heap.size ≤ q_ := fun q_ h => Nat.le_trans K0.size (hg_415 q_ h)
                clear hg_415
                replace hb_4 := hb_4.ext K_416
                replace hb_31 := hb_31.ext K_416
                replace ho_41 := ho_41.ext K_416
                replace ho_51 := ho_51.ext K_416
                replace hT_291 := hT_291.ext K_416
                replace ho_298 := ho_298.ext K_416
                replace ho_299 := ho_299.ext K_416
                replace hb_334 := hb_334.ext K_416
                replace ho_349 := ho_349.ext K_416
                replace ho_392 := ho_392.ext K_416
                replace hc_408 := hc_408.ext K_416
                replace K0 := K0.ext K_416
                refine ⟨.inr ⟨hb_334, trivial⟩, ?_⟩
                obtain ⟨b_428, o_429, x_432, hx_433, ha_430, hc_431⟩ := ho_414.sl.el (i := k0) (by omega)
                obtain rfl : x = x_432 := Option.some.inj (hx.symm.trans hx_433)
                refine RT.gtakeP (v := .pointer (some ⟨b_428, o_429 + k0 * 3, none⟩)) 14 rfl (by kernel_rfl) (.inr ⟨hb_334, trivial⟩) (wantedT1 rfl rfl rfl rfl) (fun hg _ => (x_idxN Try.underlying32 ty23 rfl rfl ha_430 (by omega))) ?_
                refine RT.gst 15 rfl (by kernel_rfl) (wantedT1 rfl rfl rfl rfl) <| St1.val (x_ldV (v := .agg #[.int .i64 ((x).node), .int .i64 ((x).inc), .int .i64 ((x).status)]) (y := x) ty23 rfl hc_431 rfl) ?_
                refine ⟨.inr ⟨hb_334, trivial⟩, ?_⟩
                refine RT.gst 17 rfl (by kernel_rfl) (wantedT1 rfl rfl rfl rfl) <| St1.call (vals := [.agg #[.int .i64 ((x).node), .int .i64 ((x).inc), .int .i64 ((x).status)], .agg #[.int .i64 ((p).node), .int .i64 ((p).inc), .int .i64 ((p).status)]]) en12 rfl (greaterR_ x p _) ?_
                rintro _ w_434 ⟨rfl, K_435⟩
                replace hb_4 := hb_4.ext K_435
                replace hb_31 := hb_31.ext K_435
                replace ho_41 := ho_41.ext K_435
                replace ho_51 := ho_51.ext K_435
                replace hT_291 := hT_291.ext K_435
                replace ho_298 := ho_298.ext K_435
                replace ho_299 := ho_299.ext K_435
                replace hb_334 := hb_334.ext K_435
                replace ho_349 := ho_349.ext K_435
                replace ho_392 := ho_392.ext K_435
                replace hc_408 := hc_408.ext K_435
                replace ho_414 := ho_414.ext K_435
                replace hc_431 := hc_431.ext K_435
                replace K0 := K0.ext K_435
                refine ⟨.inr ⟨hb_334, trivial⟩, ?_⟩
                refine RT.gtakeP (v := .bool (false)) 18 rfl (by kernel_rfl) (.inr ⟨hb_334, trivial⟩) (wantedT1 rfl rfl rfl rfl) (fun hg _ => (litF (x_not rfl) (by rcases hn2 x (mem_of_at hx) hxn with h | h <;> simp_all))) ?_
                refine RT.gtakeP (v := .bool (false)) 19 rfl (by kernel_rfl) (.inr ⟨hb_334, trivial⟩) (wantedF1 rfl rfl rfl rfl) (fun hg _ => (x_andT rfl rfl rfl)) ?_
                refine RT.takeP (v := .bool (false)) 20 rfl (by kernel_rfl) (.inr ⟨hb_334, trivial⟩) (fun _ => (x_orF rfl rfl rfl)) ?_
                refine RT.done (by kernel_rfl) ?_
                refine Run.condF rfl ?_
                refine Run.skip ?_
                refine Run.inBlock ?_
                refine Run.region ?_
                refine RL.val (litI (c := ((j + 1 : Nat) : Int)) (x_add rfl rfl (by omega) (by omega)) rfl) ?_
                refine RL.val (x_moveI rfl) ?_
                refine RL.nil ?_
                refine ih4 (j + 1) _ _ ?_ (by omega)
                refine ⟨⟨rfl, rfl, rfl, rfl, rfl, rfl, rfl, rfl, rfl, trivial⟩, K0, hb_4, hb_31, ho_41, ho_51, hT_291, ho_298, ho_299, ?_⟩
                · omega
            · try simp only [br] at hc118
              refine Run.exit rfl ?_
              refine Run.seq ?_
              have hse2 := never_self hok1 hN1 hn
              refine Run.region ?_
              refine RL.val (x_moveP rfl) ?_
              refine RL.val (x_ld (v := .int .i64 (n)) ty3 rfl rfl (hb_4.cl.field (i := 0) rfl)) ?_
              refine RL.st rfl <| St1.call (vals := [.pointer (some ⟨b_6, 0, none⟩), .int .i64 (n)]) en17 rfl (status_ _ _ _ ((tick T ((o).now)).T) n _ hT_291.blk hT_291.ok.len) ?_
              rintro _ w_436 ⟨rfl, K_437⟩
              replace hb_4 := hb_4.ext K_437
              replace hb_31 := hb_31.ext K_437
              replace ho_41 := ho_41.ext K_437
              replace ho_51 := ho_51.ext K_437
              replace hT_291 := hT_291.ext K_437
              replace ho_298 := ho_298.ext K_437
              replace ho_299 := ho_299.ext K_437
              replace K0 := K0.ext K_437
              refine RL.val (litF (x_neI rfl rfl) (by rw [hse2.2]; rfl)) ?_
              refine RL.nil ?_
              refine Run.condF rfl ?_
              refine Run.skip ?_
              refine Run.inBlock ?_
              refine Run.region ?_
              refine RL.val (litI (c := ((i + 1 : Nat) : Int)) (x_add rfl rfl (by omega) (by omega)) rfl) ?_
              refine RL.val (x_moveI rfl) ?_
              refine RL.nil ?_
              refine ih1 (i + 1) _ _ ?_ (by omega)
              refine ⟨_, _, _, ⟨rfl, rfl, rfl, rfl, rfl, trivial⟩, K0, hb_4, hT_291, pr_317, pg_321, ?_, ?_, ?_⟩
              · omega
              · exact hN1
              · omega
          · try simp only [br] at hc108
            refine Run.drawT [] (m := 7) (by kernel_rfl) rfl ?_
            intro w_438 K_439
            replace hb_4 := hb_4.ext K_439
            replace hO_18 := hO_18.ext K_439
            replace hb_31 := hb_31.ext K_439
            replace ho_41 := ho_41.ext K_439
            replace ho_51 := ho_51.ext K_439
            replace K0 := K0.ext K_439
            refine ⟨fun w' => Blk w' b_1 [.int .i64 (n)] 3 ∧ Blk w' b_28 [.int .i64 ((o).op), .int .i64 ((o).now), .slice ((o).peers.a) ((o).peers.len) ((o).peers.cap), .int .i64 ((o).kind), .int .i64 ((o).frm), .int .i64 ((o).req), .int .i64 ((o).owner), .int .i64 ((o).n)] 65 ∧ True, ?_⟩
            refine RT.takeP (v := .pointer (some ⟨b_6, 0, none⟩)) 0 rfl (by kernel_rfl) (.inr ⟨hb_4, hb_31, trivial⟩) (fun _ => (x_moveP rfl)) ?_
            refine RT.take (v := .agg #[.int .i64 ((o).op), .int .i64 ((o).now), .slice ((o).peers.a) ((o).peers.len) ((o).peers.cap), .int .i64 ((o).kind), .int .i64 ((o).frm), .int .i64 ((o).req), .int .i64 ((o).owner), .int .i64 ((o).n)]) 1 rfl (by kernel_rfl) ⟨hb_4, hb_31, trivial⟩ (by rintro _ ⟨hb_4, hb_31, -⟩; exact (x_lds (cs := #[.int .i64 ((o).op), .int .i64 ((o).now), .slice ((o).peers.a) ((o).peers.len) ((o).peers.cap), .int .i64 ((o).kind), .int .i64 ((o).frm), .int .i64 ((o).req), .int .i64 ((o).owner), .int .i64 ((o).n)]) ty65 rfl rfl (hb_31.cl.drop 0 8))) ?_
            refine RT.take (v := .int .i64 (n)) 2 rfl (by kernel_rfl) ⟨hb_4, hb_31, trivial⟩ (by rintro _ ⟨hb_4, hb_31, -⟩; exact (x_ld (v := .int .i64 (n)) ty3 rfl rfl (hb_4.cl.field (i := 0) rfl))) ?_
            refine RT.takeP (v := .pointer (some ⟨b_28, 1, none⟩)) 4 rfl (by kernel_rfl) (.inr ⟨hb_4, hb_31, trivial⟩) (fun _ => (x_fld (o' := 1) Try.underlying65 rfl ty3 rfl rfl rfl)) ?_
            refine RT.take (v := .int .i64 ((o).now)) 5 rfl (by kernel_rfl) ⟨hb_4, hb_31, trivial⟩ (by rintro _ ⟨hb_4, hb_31, -⟩; exact (x_ld (v := .int .i64 ((o).now)) ty3 rfl rfl (hb_31.cl.field (i := 1) rfl))) ?_
            refine RT.st 3 rfl (by kernel_rfl) rfl <| St1.call (vals := [.agg #[.int .i64 ((o).op), .int .i64 ((o).now), .slice ((o).peers.a) ((o).peers.len) ((o).peers.cap), .int .i64 ((o).kind), .int .i64 ((o).frm), .int .i64 ((o).req), .int .i64 ((o).owner), .int .i64 ((o).n)], .int .i64 (n)]) en27 rfl (msg_ o n _) ?_
            rintro _ w_440 ⟨rfl, K_441⟩
            replace hb_4 := hb_4.ext K_441
            replace hO_18 := hO_18.ext K_441
            replace hb_31 := hb_31.ext K_441
            replace ho_41 := ho_41.ext K_441
            replace ho_51 := ho_51.ext K_441
            replace K0 := K0.ext K_441
            refine ⟨.inr ⟨hb_4, hb_31, trivial⟩, ?_⟩
            refine RT.st 6 rfl (by kernel_rfl) rfl <| St1.call (vals := [.pointer (some ⟨b_6, 0, none⟩), .agg #[.int .i64 ((msgOf o n).kind), .int .i64 ((msgOf o n).frm), .int .i64 ((msgOf o n).to), .int .i64 ((msgOf o n).req), .string ((msgOf o n).key), .slice ((msgOf o n).entries.a) ((msgOf o n).entries.len) ((msgOf o n).entries.cap), .slice ((msgOf o n).marks.a) ((msgOf o n).marks.len) ((msgOf o n).marks.cap), .slice ((msgOf o n).cloud.a) ((msgOf o n).cloud.len) ((msgOf o n).cloud.cap), .int .i64 ((msgOf o n).owner), .int .i64 ((msgOf o n).part), .int .i64 ((msgOf o n).n), .int .i64 ((msgOf o n).rparts), .int .i64 ((msgOf o n).rcopies), .int .i64 ((msgOf o n).rspots), .slice ((msgOf o n).members.a) ((msgOf o n).members.len) ((msgOf o n).members.cap), .slice ((msgOf o n).peers.a) ((msgOf o n).peers.len) ((msgOf o n).peers.cap), .slice ((msgOf o n).sums.a) ((msgOf o n).sums.len) ((msgOf o n).sums.cap)], .int .i64 ((o).now)]) en26 rfl (on_ _ _ _ T (msgOf o n) ((o).now) _ hO_18 (by omega) (by omega)) ?_
            rintro _ w_444 ⟨al_442, cl_443, a_448, c_449, a_450, c_451, rfl, hT_445, ho_452, ho_453, hg_454, hg_455, pr_456, pr_457, pr_458, hm_446, K_447⟩
            have pr_459 : ¬ own a_448 b_1 := notNew hg_454 hb_4.lt
            have pr_460 : ∀ q_, own a_448 q_ → ¬ tabS b_6 alb q_ := apartNew hg_454 hO_18.own_lt
            have pr_461 : ¬ own a_448 b_28 := notNew hg_454 hb_31.lt
            have pr_462 : ∀ q_, own a_448 q_ → ¬ own a_38 q_ := apartNew hg_454 ho_41.own_lt
            have pr_463 : ∀ q_, own a_448 q_ → ¬ own a_48 q_ := apartNew hg_454 ho_51.own_lt
            have pg_464 : ∀ q_, own a_448 q_ → w.heap.size ≤ q_ := fun q_ h => Nat.le_trans K0.size (hg_454 q_ h)
            have pr_465 : ¬ own a_450 b_1 := notNew hg_455 hb_4.lt
            have pr_466 : ∀ q_, own a_450 q_ → ¬ tabS b_6 alb q_ := apartNew hg_455 hO_18.own_lt
            have pr_467 : ¬ own a_450 b_28 := notNew hg_455 hb_31.lt
            have pr_468 : ∀ q_, own a_450 q_ → ¬ own a_38 q_ := apartNew hg_455 ho_41.own_lt
            have pr_469 : ∀ q_, own a_450 q_ → ¬ own a_48 q_ := apartNew hg_455 ho_51.own_lt
            have pg_470 : ∀ q_, own a_450 q_ → w.heap.size ≤ q_ := fun q_ h => Nat.le_trans K0.size (hg_455 q_ h)
            have pr_471 : ¬ tabS b_6 al_442 b_1 := hm_446.not pr_19 hb_4.lt
            have pr_472 : ¬ tabS b_6 al_442 b_28 := hm_446.not pr_35 hb_31.lt
            have pr_473 : ∀ q_, tabS b_6 al_442 q_ → ¬ own a_38 q_ := hm_446.apart (fun q_ h1 h2 => pr_45 q_ h2 h1) ho_41.own_lt
            have pr_474 : ∀ q_, tabS b_6 al_442 q_ → ¬ own a_48 q_ := hm_446.apart (fun q_ h1 h2 => pr_55 q_ h2 h1) ho_51.own_lt
            have pg_475 : ∀ q_, tabS b_6 al_442 q_ → w.heap.size ≤ q_ := hm_446.ge pr_20 K0.size
            replace hb_4 := hb_4.keep K_447 pr_19
            replace hb_31 := hb_31.keep K_447 pr_35
            replace ho_41 := ho_41.keepO K_447 pr_45
            replace ho_51 := ho_51.keepO K_447 pr_55
            replace K0 := K0.new K_447 pr_20
            clear hm_446
            clear hg_454 hg_455
            refine ⟨.inr ⟨hb_4, hb_31, trivial⟩, ?_⟩
            refine RT.done (by kernel_rfl) ?_
            obtain ⟨hN1, hG⟩ := nev_on (m := msgOf o n) (t := o.now) hok hN hn
            have hok1 := hT_445.ok
            have hpL1 := peersL_len ((on T (msgOf o n) ((o).now)).T).l
            have hl81 := hok1.len
            have hpl3 := (on_ok (m := msgOf o n) (t := o.now) hok (by omega)).2.2.2
            refine Run.inBlock ?_
            refine Run.seq ?_
            refine Run.seq ?_
            refine Run.region ?_
            refine RL.val (x_moveSl rfl) ?_
            refine RL.val (x_lenSl Try.underlying32 rfl) ?_
            refine RL.val (x_moveI rfl) ?_
            refine RL.nil ?_
            refine Run.block ?_
            refine Run.loop (ι := Nat) (fun j ρ' w' => Holds ρ' [(2, .pointer (some ⟨b_1, 0, none⟩)), (5, .pointer (some ⟨b_6, 0, none⟩)), (33, .slice (as0) (script.length) (cs0)), (34, .int .i64 (((script.length : Nat) : Int))), (35, .int .i64 (((i : Nat) : Int))), (36, .bool (decide (((i : Nat) : Int) < ((script.length : Nat) : Int)))), (115, .slice (a_48) ((peersL T.l).length) (c_49)), (116, .int .i64 ((((peersL T.l).length : Nat) : Int))), (117, .int .i64 (((j : Nat) : Int)))] ∧ Ext w w' ∧ (Blk w' b_1 [.int .i64 (n)] 3) ∧ (Blk w' b_28 [.int .i64 ((o).op), .int .i64 ((o).now), .slice ((o).peers.a) ((o).peers.len) ((o).peers.cap), .int .i64 ((o).kind), .int .i64 ((o).frm), .int .i64 ((o).req), .int .i64 ((o).owner), .int .i64 ((o).n)] 65) ∧ (OwnSl w' 23 (a_38) (c_39) (peersL T.l)) ∧ (OwnSl w' 23 (a_48) (c_49) (peersL T.l)) ∧ (TabAt w' b_6 al_442 cl_443 ((on T (msgOf o n) ((o).now)).T)) ∧ (OwnSl w' 61 (a_448) (c_449) ((on T (msgOf o n) ((o).now)).out)) ∧ (OwnSl w' 23 (a_450) (c_451) ((on T (msgOf o n) ((o).now)).told)) ∧ (j ≤ (peersL T.l).length)) (fun j => (peersL T.l).length - j) 0 ?_ ?_
            · refine ⟨⟨rfl, rfl, rfl, rfl, rfl, rfl, rfl, rfl, rfl, trivial⟩, K0, hb_4, hb_31, ho_41, ho_51, hT_445, ho_452, ho_453, ?_⟩
              · omega
            clear hb_4 hb_31 ho_41 ho_51 hT_445 ho_452 ho_453
            clear K0
            rintro j ρ_478 w_476 ⟨hH_477, K0, hb_4, hb_31, ho_41, ho_51, hT_445, ho_452, ho_453, hj⟩ ih5
            obtain ⟨ρ₀, rfl⟩ := hH_477.ex
            clear hH_477
            refine Run.seq ?_
            refine Run.region ?_
            refine RL.val (x_ltI rfl rfl) ?_
            refine RL.nil ?_
            refine Run.seq ?_
            refine Run.cond rfl (fun hc118 => ?_) (fun hc118 => ?_)
            · try simp only [br] at hc118
              refine Run.skip ?_
              refine Run.seq ?_
              refine Run.block ?_
              refine Run.seq ?_
              refine Run.region ?_
              obtain ⟨b_479, o_480, p, hp, ha_481, hc_482⟩ := ho_51.sl.el (i := j) (by first | omega | (simp only [List.length_set]; omega))
              refine RL.val (x_idxN Try.underlying32 ty23 rfl rfl ha_481 (by first | omega | (simp only [List.length_set]; omega))) ?_
              refine RL.val (x_ldV (v := .agg #[.int .i64 ((p).node), .int .i64 ((p).inc), .int .i64 ((p).status)]) (y := p) ty23 rfl hc_482 rfl) ?_
              refine RL.st rfl <| St1.alloc ty23 ?_
              intro b_485 w_486 hl_489 hb_488 K_487
              replace hb_488 : Blk w_486 b_485 [.int .i64 (0), .int .i64 (0), .int .i64 (0)] 23 := hb_488
              have ne_490 : b_1 < b_485 := Nat.lt_of_lt_of_le hb_4.lt hl_489
              have ne_491 : b_28 < b_485 := Nat.lt_of_lt_of_le hb_31.lt hl_489
              have ne_492 : b_479 < b_485 := Nat.lt_of_lt_of_le hc_482.lt hl_489
              have pr_493 : ¬ own a_38 b_485 := fun h => absurd (ho_41.own_lt _ h) (by omega)
              have pr_494 : ¬ own a_48 b_485 := fun h => absurd (ho_51.own_lt _ h) (by omega)
              have pr_495 : ¬ tabS b_6 al_442 b_485 := fun h => absurd (hT_445.own_lt _ h) (by omega)
              have pr_496 : ¬ own a_448 b_485 := fun h => absurd (ho_452.own_lt _ h) (by omega)
              have pr_497 : ¬ own a_450 b_485 := fun h => absurd (ho_453.own_lt _ h) (by omega)
              have : w.heap.size ≤ b_485 := Nat.le_trans K0.size hl_489
              clear hl_489
              replace hb_4 := hb_4.ext K_487
              replace hb_31 := hb_31.ext K_487
              replace ho_41 := ho_41.ext K_487
              replace ho_51 := ho_51.ext K_487
              replace hT_445 := hT_445.ext K_487
              replace ho_452 := ho_452.ext K_487
              replace ho_453 := ho_453.ext K_487
              replace hc_482 := hc_482.ext K_487
              replace K0 := K0.ext K_487
              refine RL.st rfl <| St1.store (v := .agg #[.int .i64 ((p).node), .int .i64 ((p).inc), .int .i64 ((p).status)]) ty23 rfl rfl rfl (by simp [Value.cells, Value.oneCell']) hb_488 (by simp) ?_
              intro w_498 hb_488_ K_499
              have hb_488' : Blk w_498 b_485 [.int .i64 ((p).node), .int .i64 ((p).inc), .int .i64 ((p).status)] 23 := hb_488_
              clear hb_488_
              replace hb_4 := hb_4.keep K_499 (by simp only [one]; omega)
              replace hb_31 := hb_31.keep K_499 (by simp only [one]; omega)
              replace ho_41 := ho_41.keepO K_499 (fun q_ hq_ eq_ => pr_493 (by simp only [one] at eq_; rw [← eq_]; exact hq_))
              replace ho_51 := ho_51.keepO K_499 (fun q_ hq_ eq_ => pr_494 (by simp only [one] at eq_; rw [← eq_]; exact hq_))
              replace hT_445 := hT_445.keepO K_499 (fun q_ hq_ eq_ => pr_495 (by simp only [one] at eq_; rw [← eq_]; exact hq_))
              replace ho_452 := ho_452.keepO K_499 (fun q_ hq_ eq_ => pr_496 (by simp only [one] at eq_; rw [← eq_]; exact hq_))
              replace ho_453 := ho_453.keepO K_499 (fun q_ hq_ eq_ => pr_497 (by simp only [one] at eq_; rw [← eq_]; exact hq_))
              replace hc_482 := hc_482.keep K_499 (fun e => pr_494 (by simp only [one] at e; rw [← e]; exact (own_sub _) _ ha_481))
              replace K0 := K0.new K_499 (fun x hx => by simp only [one] at hx; omega)
              replace hb_488 := hb_488'
              clear hb_488'
              refine RL.nil ?_
              refine Run.seq ?_
              obtain ⟨hn1, hn2⟩ := never_one hok hok1 hG (mem_of_at hp)
              refine Run.region ?_
              refine RL.val (x_moveP rfl) ?_
              refine RL.st rfl <| St1.call (vals := [.pointer (some ⟨b_6, 0, none⟩)]) en23 rfl (peers_ _ _ _ ((on T (msgOf o n) ((o).now)).T) _ hT_445.blk hT_445.ok.len) ?_
              rintro _ w_502 ⟨a_500, c_501, rfl, ho_503, hg_504, K_505⟩
              have pr_506 : ¬ own a_500 b_1 := notNew hg_504 hb_4.lt
              have pr_507 : ¬ own a_500 b_28 := notNew hg_504 hb_31.lt
              have pr_508 : ∀ q_, own a_500 q_ → ¬ own a_38 q_ := apartNew hg_504 ho_41.own_lt
              have pr_509 : ∀ q_, own a_500 q_ → ¬ own a_48 q_ := apartNew hg_504 ho_51.own_lt
              have pr_510 : ∀ q_, own a_500 q_ → ¬ tabS b_6 al_442 q_ := apartNew hg_504 hT_445.own_lt
              have pr_511 : ∀ q_, own a_500 q_ → ¬ own a_448 q_ := apartNew hg_504 ho_452.own_lt
              have pr_512 : ∀ q_, own a_500 q_ → ¬ own a_450 q_ := apartNew hg_504 ho_453.own_lt
              have pr_513 : ¬ own a_500 b_485 := notNew hg_504 hb_488.lt
              have pg_514 : ∀ q_, own a_500 q_ → w.heap.size ≤ q_ := fun q_ h => Nat.le_trans K0.size (hg_504 q_ h)
              clear hg_504
              replace hb_4 := hb_4.ext K_505
              replace hb_31 := hb_31.ext K_505
              replace ho_41 := ho_41.ext K_505
              replace ho_51 := ho_51.ext K_505
              replace hT_445 := hT_445.ext K_505
              replace ho_452 := ho_452.ext K_505
              replace ho_453 := ho_453.ext K_505
              replace hb_488 := hb_488.ext K_505
              replace K0 := K0.ext K_505
              refine RL.val (x_mkFunc (a := []) (c := [.pointer (some ⟨b_485, 0, none⟩)]) rfl rfl) ?_
              refine RL.st rfl <| St1.call (vals := [.slice (a_500) ((peersL ((on T (msgOf o n) ((o).now)).T).l).length) (c_501), .func (.func 31) #[] #[.pointer (some ⟨b_485, 0, none⟩)]]) en28 rfl (indexFunc_peer _ _ _ 31 _ (fun x => x.node == p.node) en31 _ ho_503.sl (by omega) (fun x _ w' K' => nev2 x b_485 p w' (hb_488.ext K'))) ?_
              rintro _ w_515 ⟨rfl, K_516⟩
              replace hb_4 := hb_4.ext K_516
              replace hb_31 := hb_31.ext K_516
              replace ho_41 := ho_41.ext K_516
              replace ho_51 := ho_51.ext K_516
              replace hT_445 := hT_445.ext K_516
              replace ho_452 := ho_452.ext K_516
              replace ho_453 := ho_453.ext K_516
              replace hb_488 := hb_488.ext K_516
              replace ho_503 := ho_503.ext K_516
              replace K0 := K0.ext K_516
              refine RL.val (x_assignI rfl) ?_
              refine RL.nil ?_
              obtain ⟨k0, hk0, hkl0, hkp0, _⟩ := findI_some (p := (fun x : Peer => x.node == p.node)) (xs := (peersL ((on T (msgOf o n) ((o).now)).T).l)) rfl hn1
              rw [hk0]
              obtain ⟨x, hx⟩ : ∃ x, (peersL ((on T (msgOf o n) ((o).now)).T).l)[k0]? = some x := ⟨_, List.getElem?_eq_getElem hkl0⟩
              have hxn : x.node = p.node := by have := hkp0 x hx; simpa using this
              refine Run.seq ?_
              by_cases heq : x = p
              · refine Run.drawT [] (m := 21) (by kernel_rfl) rfl ?_
                intro w_517 K_518
                replace hb_4 := hb_4.ext K_518
                replace hb_31 := hb_31.ext K_518
                replace ho_41 := ho_41.ext K_518
                replace ho_51 := ho_51.ext K_518
                replace hT_445 := hT_445.ext K_518
                replace ho_452 := ho_452.ext K_518
                replace ho_453 := ho_453.ext K_518
                replace hb_488 := hb_488.ext K_518
                replace ho_503 := ho_503.ext K_518
                replace K0 := K0.ext K_518
                refine ⟨fun w' => Blk w' b_485 [.int .i64 ((p).node), .int .i64 ((p).inc), .int .i64 ((p).status)] 23 ∧ True, ?_⟩
                refine RT.takeP (v := .int .i64 (((k0 : Nat) : Int))) 0 rfl (by kernel_rfl) (.inr ⟨hb_488, trivial⟩) (fun _ => (x_moveI rfl)) ?_
                refine RT.takeP (v := .bool (false)) 1 rfl (by kernel_rfl) (.inr ⟨hb_488, trivial⟩) (fun _ => (litF (x_ltI rfl rfl) (by simp))) ?_
                refine RT.takeP (v := .bool (false)) 2 rfl (by kernel_rfl) (.inr ⟨hb_488, trivial⟩) (fun _ => (x_moveB rfl)) ?_
                refine RT.gtakeP (v := .pointer (some ⟨b_6, 0, none⟩)) 3 rfl (by kernel_rfl) (.inr ⟨hb_488, trivial⟩) (wantedF1 rfl rfl rfl rfl) (fun hg _ => (x_moveP rfl)) ?_
                refine RT.gtakeP (v := .int .i64 (((k0 : Nat) : Int))) 5 rfl (by kernel_rfl) (.inr ⟨hb_488, trivial⟩) (wantedF1 rfl rfl rfl rfl) (fun hg _ => (x_moveI rfl)) ?_
                refine RT.gtake (v := .agg #[.int .i64 ((p).node), .int .i64 ((p).inc), .int .i64 ((p).status)]) 8 rfl (by kernel_rfl) ⟨hb_488, trivial⟩ (wantedF1 rfl rfl rfl rfl) (fun hg => by rintro _ ⟨hb_488, -⟩; exact (x_lds (cs := #[.int .i64 ((p).node), .int .i64 ((p).inc), .int .i64 ((p).status)]) ty23 rfl rfl (hb_488.cl.drop 0 3))) ?_
                refine RT.gst 4 rfl (by kernel_rfl) (wantedF1 rfl rfl rfl rfl) <| St1.call (vals := [.pointer (some ⟨b_6, 0, none⟩)]) en23 rfl (peers_ _ _ _ ((on T (msgOf o n) ((o).now)).T) _ hT_445.blk hT_445.ok.len) ?_
                rintro _ w_521 ⟨a_519, c_520, rfl, ho_522, hg_523, K_524⟩
                have pr_525 : ¬ own a_519 b_1 := notNew hg_523 hb_4.lt
                have pr_526 : ¬ own a_519 b_28 := notNew hg_523 hb_31.lt
                have pr_527 : ∀ q_, own a_519 q_ → ¬ own a_38 q_ := apartNew hg_523 ho_41.own_lt
                have pr_528 : ∀ q_, own a_519 q_ → ¬ own a_48 q_ := apartNew hg_523 ho_51.own_lt
                have pr_529 : ∀ q_, own a_519 q_ → ¬ tabS b_6 al_442 q_ := apartNew hg_523 hT_445.own_lt
                have pr_530 : ∀ q_, own a_519 q_ → ¬ own a_448 q_ := apartNew hg_523 ho_452.own_lt
                have pr_531 : ∀ q_, own a_519 q_ → ¬ own a_450 q_ := apartNew hg_523 ho_453.own_lt
                have pr_532 : ¬ own a_519 b_485 := notNew hg_523 hb_488.lt
                have pr_533 : ∀ q_, own a_519 q_ → ¬ own a_500 q_ := apartNew hg_523 ho_503.own_lt
                have pg_534 : ∀ q_, own a_519 q_ → w.heap.size ≤ q_ := fun q_ h => Nat.le_trans K0.size (hg_523 q_ h)
                clear hg_523
                replace hb_4 := hb_4.ext K_524
                replace hb_31 := hb_31.ext K_524
                replace ho_41 := ho_41.ext K_524
                replace ho_51 := ho_51.ext K_524
                replace hT_445 := hT_445.ext K_524
                replace ho_452 := ho_452.ext K_524
                replace ho_453 := ho_453.ext K_524
                replace hb_488 := hb_488.ext K_524
                replace ho_503 := ho_503.ext K_524
                replace K0 := K0.ext K_524
                refine ⟨.inr ⟨hb_488, trivial⟩, ?_⟩
                obtain ⟨b_535, o_536, x_539, hx_540, ha_537, hc_538⟩ := ho_522.sl.el (i := k0) (by omega)
                obtain rfl : x = x_539 := Option.some.inj (hx.symm.trans hx_540)
                refine RT.gtakeP (v := .pointer (some ⟨b_535, o_536 + k0 * 3, none⟩)) 6 rfl (by kernel_rfl) (.inr ⟨hb_488, trivial⟩) (wantedF1 rfl rfl rfl rfl) (fun hg _ => (x_idxN Try.underlying32 ty23 rfl rfl ha_537 (by omega))) ?_
                refine RT.gst 7 rfl (by kernel_rfl) (wantedF1 rfl rfl rfl rfl) <| St1.val (x_ldV (v := .agg #[.int .i64 ((x).node), .int .i64 ((x).inc), .int .i64 ((x).status)]) (y := x) ty23 rfl hc_538 rfl) ?_
                refine ⟨.inr ⟨hb_488, trivial⟩, ?_⟩
                refine RT.gtakeP (v := .bool (false)) 9 rfl (by kernel_rfl) (.inr ⟨hb_488, trivial⟩) (wantedF1 rfl rfl rfl rfl) (fun hg _ => (litF (x_neA (by kernel_rfl) rfl rfl (eq_Peer x p)) (by simp [heq]))) ?_
                refine RT.gtakeP (v := .bool (false)) 10 rfl (by kernel_rfl) (.inr ⟨hb_488, trivial⟩) (wantedF1 rfl rfl rfl rfl) (fun hg _ => (x_moveB rfl)) ?_
                refine RT.gtakeP (v := undef) 11 rfl (by kernel_rfl) (.inr ⟨hb_488, trivial⟩) (wantedT0 rfl rfl rfl rfl) (fun hg => by cases hg) ?_
                refine RT.gtakeP (v := undef) 13 rfl (by kernel_rfl) (.inr ⟨hb_488, trivial⟩) (wantedT0 rfl rfl rfl rfl) (fun hg => by cases hg) ?_
                refine RT.gtakeP (v := undef) 16 rfl (by kernel_rfl) (.inr ⟨hb_488, trivial⟩) (wantedT0 rfl rfl rfl rfl) (fun hg => by cases hg) ?_
                refine RT.gT 12 rfl (by kernel_rfl) (wantedT0 rfl rfl rfl rfl) (.inr ⟨hb_488, trivial⟩) ?_
                refine RT.gtakeP (v := undef) 14 rfl (by kernel_rfl) (.inr ⟨hb_488, trivial⟩) (wantedT0 rfl rfl rfl rfl) (fun hg => by cases hg) ?_
                refine RT.gtakeP (v := undef) 15 rfl (by kernel_rfl) (.inr ⟨hb_488, trivial⟩) (wantedT0 rfl rfl rfl rfl) (fun hg => by cases hg) ?_
                refine RT.gT 17 rfl (by kernel_rfl) (wantedT0 rfl rfl rfl rfl) (.inr ⟨hb_488, trivial⟩) ?_
                refine RT.gtakeP (v := undef) 18 rfl (by kernel_rfl) (.inr ⟨hb_488, trivial⟩) (wantedT0 rfl rfl rfl rfl) (fun hg => by cases hg) ?_
                refine RT.gtakeP (v := .bool (false)) 19 rfl (by kernel_rfl) (.inr ⟨hb_488, trivial⟩) (wantedF1 rfl rfl rfl rfl) (fun hg _ => (x_and (b := false) (e := false) rfl rfl rfl)) ?_
                refine RT.takeP (v := .bool (false)) 20 rfl (by kernel_rfl) (.inr ⟨hb_488, trivial⟩) (fun _ => (x_orF rfl rfl rfl)) ?_
                refine RT.done (by kernel_rfl) ?_
                refine Run.condF rfl ?_
                refine Run.skip ?_
                refine Run.inBlock ?_
                refine Run.region ?_
                refine RL.val (litI (c := ((j + 1 : Nat) : Int)) (x_add rfl rfl (by omega) (by omega)) rfl) ?_
                refine RL.val (x_moveI rfl) ?_
                refine RL.nil ?_
                refine ih5 (j + 1) _ _ ?_ (by omega)
                refine ⟨⟨rfl, rfl, rfl, rfl, rfl, rfl, rfl, rfl, rfl, trivial⟩, K0, hb_4, hb_31, ho_41, ho_51, hT_445, ho_452, ho_453, ?_⟩
                · omega
              · refine Run.drawT [] (m := 21) (by kernel_rfl) rfl ?_
                intro w_541 K_542
                replace hb_4 := hb_4.ext K_542
                replace hb_31 := hb_31.ext K_542
                replace ho_41 := ho_41.ext K_542
                replace ho_51 := ho_51.ext K_542
                replace hT_445 := hT_445.ext K_542
                replace ho_452 := ho_452.ext K_542
                replace ho_453 := ho_453.ext K_542
                replace hb_488 := hb_488.ext K_542
                replace ho_503 := ho_503.ext K_542
                replace K0 := K0.ext K_542
                refine ⟨fun w' => Blk w' b_485 [.int .i64 ((p).node), .int .i64 ((p).inc), .int .i64 ((p).status)] 23 ∧ True, ?_⟩
                refine RT.takeP (v := .int .i64 (((k0 : Nat) : Int))) 0 rfl (by kernel_rfl) (.inr ⟨hb_488, trivial⟩) (fun _ => (x_moveI rfl)) ?_
                refine RT.takeP (v := .bool (false)) 1 rfl (by kernel_rfl) (.inr ⟨hb_488, trivial⟩) (fun _ => (litF (x_ltI rfl rfl) (by simp))) ?_
                refine RT.takeP (v := .bool (false)) 2 rfl (by kernel_rfl) (.inr ⟨hb_488, trivial⟩) (fun _ => (x_moveB rfl)) ?_
                refine RT.gtakeP (v := .pointer (some ⟨b_6, 0, none⟩)) 3 rfl (by kernel_rfl) (.inr ⟨hb_488, trivial⟩) (wantedF1 rfl rfl rfl rfl) (fun hg _ => (x_moveP rfl)) ?_
                refine RT.gtakeP (v := .int .i64 (((k0 : Nat) : Int))) 5 rfl (by kernel_rfl) (.inr ⟨hb_488, trivial⟩) (wantedF1 rfl rfl rfl rfl) (fun hg _ => (x_moveI rfl)) ?_
                refine RT.gtake (v := .agg #[.int .i64 ((p).node), .int .i64 ((p).inc), .int .i64 ((p).status)]) 8 rfl (by kernel_rfl) ⟨hb_488, trivial⟩ (wantedF1 rfl rfl rfl rfl) (fun hg => by rintro _ ⟨hb_488, -⟩; exact (x_lds (cs := #[.int .i64 ((p).node), .int .i64 ((p).inc), .int .i64 ((p).status)]) ty23 rfl rfl (hb_488.cl.drop 0 3))) ?_
                refine RT.gst 4 rfl (by kernel_rfl) (wantedF1 rfl rfl rfl rfl) <| St1.call (vals := [.pointer (some ⟨b_6, 0, none⟩)]) en23 rfl (peers_ _ _ _ ((on T (msgOf o n) ((o).now)).T) _ hT_445.blk hT_445.ok.len) ?_
                rintro _ w_545 ⟨a_543, c_544, rfl, ho_546, hg_547, K_548⟩
                have pr_549 : ¬ own a_543 b_1 := notNew hg_547 hb_4.lt
                have pr_550 : ¬ own a_543 b_28 := notNew hg_547 hb_31.lt
                have pr_551 : ∀ q_, own a_543 q_ → ¬ own a_38 q_ := apartNew hg_547 ho_41.own_lt
                have pr_552 : ∀ q_, own a_543 q_ → ¬ own a_48 q_ := apartNew hg_547 ho_51.own_lt
                have pr_553 : ∀ q_, own a_543 q_ → ¬ tabS b_6 al_442 q_ := apartNew hg_547 hT_445.own_lt
                have pr_554 : ∀ q_, own a_543 q_ → ¬ own a_448 q_ := apartNew hg_547 ho_452.own_lt
                have pr_555 : ∀ q_, own a_543 q_ → ¬ own a_450 q_ := apartNew hg_547 ho_453.own_lt
                have pr_556 : ¬ own a_543 b_485 := notNew hg_547 hb_488.lt
                have pr_557 : ∀ q_, own a_543 q_ → ¬ own a_500 q_ := apartNew hg_547 ho_503.own_lt
                have pg_558 : ∀ q_, own a_543 q_ → w.heap.size ≤ q_ := fun q_ h => Nat.le_trans K0.size (hg_547 q_ h)
                clear hg_547
                replace hb_4 := hb_4.ext K_548
                replace hb_31 := hb_31.ext K_548
                replace ho_41 := ho_41.ext K_548
                replace ho_51 := ho_51.ext K_548
                replace hT_445 := hT_445.ext K_548
                replace ho_452 := ho_452.ext K_548
                replace ho_453 := ho_453.ext K_548
                replace hb_488 := hb_488.ext K_548
                replace ho_503 := ho_503.ext K_548
                replace K0 := K0.ext K_548
                refine ⟨.inr ⟨hb_488, trivial⟩, ?_⟩
                obtain ⟨b_559, o_560, x_563, hx_564, ha_561, hc_562⟩ := ho_546.sl.el (i := k0) (by omega)
                obtain rfl : x = x_563 := Option.some.inj (hx.symm.trans hx_564)
                refine RT.gtakeP (v := .pointer (some ⟨b_559, o_560 + k0 * 3, none⟩)) 6 rfl (by kernel_rfl) (.inr ⟨hb_488, trivial⟩) (wantedF1 rfl rfl rfl rfl) (fun hg _ => (x_idxN Try.underlying32 ty23 rfl rfl ha_561 (by omega))) ?_
                refine RT.gst 7 rfl (by kernel_rfl) (wantedF1 rfl rfl rfl rfl) <| St1.val (x_ldV (v := .agg #[.int .i64 ((x).node), .int .i64 ((x).inc), .int .i64 ((x).status)]) (y := x) ty23 rfl hc_562 rfl) ?_
                refine ⟨.inr ⟨hb_488, trivial⟩, ?_⟩
                refine RT.gtakeP (v := .bool (true)) 9 rfl (by kernel_rfl) (.inr ⟨hb_488, trivial⟩) (wantedF1 rfl rfl rfl rfl) (fun hg _ => (litT (x_neA (by kernel_rfl) rfl rfl (eq_Peer x p)) (by simp [heq]))) ?_
                refine RT.gtakeP (v := .bool (true)) 10 rfl (by kernel_rfl) (.inr ⟨hb_488, trivial⟩) (wantedF1 rfl rfl rfl rfl) (fun hg _ => (x_moveB rfl)) ?_
                refine RT.gtakeP (v := .pointer (some ⟨b_6, 0, none⟩)) 11 rfl (by kernel_rfl) (.inr ⟨hb_488, trivial⟩) (wantedT1 rfl rfl rfl rfl) (fun hg _ => (x_moveP rfl)) ?_
                refine RT.gtakeP (v := .int .i64 (((k0 : Nat) : Int))) 13 rfl (by kernel_rfl) (.inr ⟨hb_488, trivial⟩) (wantedT1 rfl rfl rfl rfl) (fun hg _ => (x_moveI rfl)) ?_
                refine RT.gtake (v := .agg #[.int .i64 ((p).node), .int .i64 ((p).inc), .int .i64 ((p).status)]) 16 rfl (by kernel_rfl) ⟨hb_488, trivial⟩ (wantedT1 rfl rfl rfl rfl) (fun hg => by rintro _ ⟨hb_488, -⟩; exact (x_lds (cs := #[.int .i64 ((p).node), .int .i64 ((p).inc), .int .i64 ((p).status)]) ty23 rfl rfl (hb_488.cl.drop 0 3))) ?_
                refine RT.gst 12 rfl (by kernel_rfl) (wantedT1 rfl rfl rfl rfl) <| St1.call (vals := [.pointer (some ⟨b_6, 0, none⟩)]) en23 rfl (peers_ _ _ _ ((on T (msgOf o n) ((o).now)).T) _ hT_445.blk hT_445.ok.len) ?_
                rintro _ w_567 ⟨a_565, c_566, rfl, ho_568, hg_569, K_570⟩
                have pr_571 : ¬ own a_565 b_1 := notNew hg_569 hb_4.lt
                have pr_572 : ¬ own a_565 b_28 := notNew hg_569 hb_31.lt
                have pr_573 : ∀ q_, own a_565 q_ → ¬ own a_38 q_ := apartNew hg_569 ho_41.own_lt
                have pr_574 : ∀ q_, own a_565 q_ → ¬ own a_48 q_ := apartNew hg_569 ho_51.own_lt
                have pr_575 : ∀ q_, own a_565 q_ → ¬ tabS b_6 al_442 q_ := apartNew hg_569 hT_445.own_lt
                have pr_576 : ∀ q_, own a_565 q_ → ¬ own a_448 q_ := apartNew hg_569 ho_452.own_lt
                have pr_577 : ∀ q_, own a_565 q_ → ¬ own a_450 q_ := apartNew hg_569 ho_453.own_lt
                have pr_578 : ¬ own a_565 b_485 := notNew hg_569 hb_488.lt
                have pr_579 : ∀ q_, own a_565 q_ → ¬ own a_500 q_ := apartNew hg_569 ho_503.own_lt
                have pr_580 : ∀ q_, own a_565 q_ → ¬ own a_543 q_ := apartNew hg_569 ho_546.own_lt
                have pg_581 : ∀ q_, own a_565 q_ → w.heap.size ≤ q_ := fun q_ h => Nat.le_trans K0.size (hg_569 q_ h)
                clear hg_569
                replace hb_4 := hb_4.ext K_570
                replace hb_31 := hb_31.ext K_570
                replace ho_41 := ho_41.ext K_570
                replace ho_51 := ho_51.ext K_570
                replace hT_445 := hT_445.ext K_570
                replace ho_452 := ho_452.ext K_570
                replace ho_453 := ho_453.ext K_570
                replace hb_488 := hb_488.ext K_570
                replace ho_503 := ho_503.ext K_570
                replace ho_546 := ho_546.ext K_570
                replace hc_562 := hc_562.ext K_570
                replace K0 := K0.ext K_570
                refine ⟨.inr ⟨hb_488, trivial⟩, ?_⟩
                obtain ⟨b_582, o_583, x_586, hx_587, ha_584, hc_585⟩ := ho_568.sl.el (i := k0) (by omega)
                obtain rfl : x = x_586 := Option.some.inj (hx.symm.trans hx_587)
                refine RT.gtakeP (v := .pointer (some ⟨b_582, o_583 + k0 * 3, none⟩)) 14 rfl (by kernel_rfl) (.inr ⟨hb_488, trivial⟩) (wantedT1 rfl rfl rfl rfl) (fun hg _ => (x_idxN Try.underlying32 ty23 rfl rfl ha_584 (by omega))) ?_
                refine RT.gst 15 rfl (by kernel_rfl) (wantedT1 rfl rfl rfl rfl) <| St1.val (x_ldV (v := .agg #[.int .i64 ((x).node), .int .i64 ((x).inc), .int .i64 ((x).status)]) (y := x) ty23 rfl hc_585 rfl) ?_
                refine ⟨.inr ⟨hb_488, trivial⟩, ?_⟩
                refine RT.gst 17 rfl (by kernel_rfl) (wantedT1 rfl rfl rfl rfl) <| St1.call (vals := [.agg #[.int .i64 ((x).node), .int .i64 ((x).inc), .int .i64 ((x).status)], .agg #[.int .i64 ((p).node), .int .i64 ((p).inc), .int .i64 ((p).status)]]) en12 rfl (greaterR_ x p _) ?_
                rintro _ w_588 ⟨rfl, K_589⟩
                replace hb_4 := hb_4.ext K_589
                replace hb_31 := hb_31.ext K_589
                replace ho_41 := ho_41.ext K_589
                replace ho_51 := ho_51.ext K_589
                replace hT_445 := hT_445.ext K_589
                replace ho_452 := ho_452.ext K_589
                replace ho_453 := ho_453.ext K_589
                replace hb_488 := hb_488.ext K_589
                replace ho_503 := ho_503.ext K_589
                replace ho_546 := ho_546.ext K_589
                replace hc_562 := hc_562.ext K_589
                replace ho_568 := ho_568.ext K_589
                replace hc_585 := hc_585.ext K_589
                replace K0 := K0.ext K_589
                refine ⟨.inr ⟨hb_488, trivial⟩, ?_⟩
                refine RT.gtakeP (v := .bool (false)) 18 rfl (by kernel_rfl) (.inr ⟨hb_488, trivial⟩) (wantedT1 rfl rfl rfl rfl) (fun hg _ => (litF (x_not rfl) (by rcases hn2 x (mem_of_at hx) hxn with h | h <;> simp_all))) ?_
                refine RT.gtakeP (v := .bool (false)) 19 rfl (by kernel_rfl) (.inr ⟨hb_488, trivial⟩) (wantedF1 rfl rfl rfl rfl) (fun hg _ => (x_andT rfl rfl rfl)) ?_
                refine RT.takeP (v := .bool (false)) 20 rfl (by kernel_rfl) (.inr ⟨hb_488, trivial⟩) (fun _ => (x_orF rfl rfl rfl)) ?_
                refine RT.done (by kernel_rfl) ?_
                refine Run.condF rfl ?_
                refine Run.skip ?_
                refine Run.inBlock ?_
                refine Run.region ?_
                refine RL.val (litI (c := ((j + 1 : Nat) : Int)) (x_add rfl rfl (by omega) (by omega)) rfl) ?_
                refine RL.val (x_moveI rfl) ?_
                refine RL.nil ?_
                refine ih5 (j + 1) _ _ ?_ (by omega)
                refine ⟨⟨rfl, rfl, rfl, rfl, rfl, rfl, rfl, rfl, rfl, trivial⟩, K0, hb_4, hb_31, ho_41, ho_51, hT_445, ho_452, ho_453, ?_⟩
                · omega
            · try simp only [br] at hc118
              refine Run.exit rfl ?_
              refine Run.seq ?_
              have hse2 := never_self hok1 hN1 hn
              refine Run.region ?_
              refine RL.val (x_moveP rfl) ?_
              refine RL.val (x_ld (v := .int .i64 (n)) ty3 rfl rfl (hb_4.cl.field (i := 0) rfl)) ?_
              refine RL.st rfl <| St1.call (vals := [.pointer (some ⟨b_6, 0, none⟩), .int .i64 (n)]) en17 rfl (status_ _ _ _ ((on T (msgOf o n) ((o).now)).T) n _ hT_445.blk hT_445.ok.len) ?_
              rintro _ w_590 ⟨rfl, K_591⟩
              replace hb_4 := hb_4.ext K_591
              replace hb_31 := hb_31.ext K_591
              replace ho_41 := ho_41.ext K_591
              replace ho_51 := ho_51.ext K_591
              replace hT_445 := hT_445.ext K_591
              replace ho_452 := ho_452.ext K_591
              replace ho_453 := ho_453.ext K_591
              replace K0 := K0.ext K_591
              refine RL.val (litF (x_neI rfl rfl) (by rw [hse2.2]; rfl)) ?_
              refine RL.nil ?_
              refine Run.condF rfl ?_
              refine Run.skip ?_
              refine Run.inBlock ?_
              refine Run.region ?_
              refine RL.val (litI (c := ((i + 1 : Nat) : Int)) (x_add rfl rfl (by omega) (by omega)) rfl) ?_
              refine RL.val (x_moveI rfl) ?_
              refine RL.nil ?_
              refine ih1 (i + 1) _ _ ?_ (by omega)
              refine ⟨_, _, _, ⟨rfl, rfl, rfl, rfl, rfl, trivial⟩, K0, hb_4, hT_445, pr_471, pg_475, ?_, ?_, ?_⟩
              · omega
              · exact hN1
              · omega
        · try simp only [br] at hc108
          refine Run.region ?_
          refine RL.val (x_eqI rfl rfl) ?_
          refine RL.val (x_assignB rfl) ?_
          refine RL.nil ?_
          refine Run.cond rfl (fun hc108 => ?_) (fun hc108 => ?_)
          · try simp only [br] at hc108
            refine Run.region ?_
            refine RL.val (x_moveP rfl) ?_
            refine RL.val (x_fld (o' := 1) Try.underlying65 rfl ty3 rfl rfl rfl) ?_
            refine RL.val (x_ld (v := .int .i64 ((o).now)) ty3 rfl rfl (hb_31.cl.field (i := 1) rfl)) ?_
            refine RL.st rfl <| St1.call (vals := [.pointer (some ⟨b_6, 0, none⟩), .int .i64 ((o).now)]) en16 rfl (tick_ _ _ _ T ((o).now) _ hO_18 (by omega) (by omega)) ?_
            rintro _ w_594 ⟨al_592, cl_593, a_598, c_599, a_600, c_601, rfl, hT_595, ho_602, ho_603, hg_604, hg_605, pr_606, pr_607, pr_608, hm_596, K_597⟩
            have pr_609 : ¬ own a_598 b_1 := notNew hg_604 hb_4.lt
            have pr_610 : ∀ q_, own a_598 q_ → ¬ tabS b_6 alb q_ := apartNew hg_604 hO_18.own_lt
            have pr_611 : ¬ own a_598 b_28 := notNew hg_604 hb_31.lt
            have pr_612 : ∀ q_, own a_598 q_ → ¬ own a_38 q_ := apartNew hg_604 ho_41.own_lt
            have pr_613 : ∀ q_, own a_598 q_ → ¬ own a_48 q_ := apartNew hg_604 ho_51.own_lt
            have pg_614 : ∀ q_, own a_598 q_ → w.heap.size ≤ q_ := fun q_ h => Nat.le_trans K0.size (hg_604 q_ h)
            have pr_615 : ¬ own a_600 b_1 := notNew hg_605 hb_4.lt
            have pr_616 : ∀ q_, own a_600 q_ → ¬ tabS b_6 alb q_ := apartNew hg_605 hO_18.own_lt
            have pr_617 : ¬ own a_600 b_28 := notNew hg_605 hb_31.lt
            have pr_618 : ∀ q_, own a_600 q_ → ¬ own a_38 q_ := apartNew hg_605 ho_41.own_lt
            have pr_619 : ∀ q_, own a_600 q_ → ¬ own a_48 q_ := apartNew hg_605 ho_51.own_lt
            have pg_620 : ∀ q_, own a_600 q_ → w.heap.size ≤ q_ := fun q_ h => Nat.le_trans K0.size (hg_605 q_ h)
            have pr_621 : ¬ tabS b_6 al_592 b_1 := hm_596.not pr_19 hb_4.lt
            have pr_622 : ¬ tabS b_6 al_592 b_28 := hm_596.not pr_35 hb_31.lt
            have pr_623 : ∀ q_, tabS b_6 al_592 q_ → ¬ own a_38 q_ := hm_596.apart (fun q_ h1 h2 => pr_45 q_ h2 h1) ho_41.own_lt
            have pr_624 : ∀ q_, tabS b_6 al_592 q_ → ¬ own a_48 q_ := hm_596.apart (fun q_ h1 h2 => pr_55 q_ h2 h1) ho_51.own_lt
            have pg_625 : ∀ q_, tabS b_6 al_592 q_ → w.heap.size ≤ q_ := hm_596.ge pr_20 K0.size
            replace hb_4 := hb_4.keep K_597 pr_19
            replace hb_31 := hb_31.keep K_597 pr_35
            replace ho_41 := ho_41.keepO K_597 pr_45
            replace ho_51 := ho_51.keepO K_597 pr_55
            replace K0 := K0.new K_597 pr_20
            clear hm_596
            clear hg_604 hg_605
            refine RL.nil ?_
            obtain ⟨hN1, hG⟩ := nev_tick (t := o.now) hok hN (by omega)
            have hok1 := hT_595.ok
            have hpL1 := peersL_len ((tick T ((o).now)).T).l
            have hl81 := hok1.len
            have hpl3 := (tick_ok (t := o.now) hok (by omega)).2.2.2
            refine Run.inBlock ?_
            refine Run.seq ?_
            refine Run.seq ?_
            refine Run.region ?_
            refine RL.val (x_moveSl rfl) ?_
            refine RL.val (x_lenSl Try.underlying32 rfl) ?_
            refine RL.val (x_moveI rfl) ?_
            refine RL.nil ?_
            refine Run.block ?_
            refine Run.loop (ι := Nat) (fun j ρ' w' => Holds ρ' [(2, .pointer (some ⟨b_1, 0, none⟩)), (5, .pointer (some ⟨b_6, 0, none⟩)), (33, .slice (as0) (script.length) (cs0)), (34, .int .i64 (((script.length : Nat) : Int))), (35, .int .i64 (((i : Nat) : Int))), (36, .bool (decide (((i : Nat) : Int) < ((script.length : Nat) : Int)))), (115, .slice (a_48) ((peersL T.l).length) (c_49)), (116, .int .i64 ((((peersL T.l).length : Nat) : Int))), (117, .int .i64 (((j : Nat) : Int)))] ∧ Ext w w' ∧ (Blk w' b_1 [.int .i64 (n)] 3) ∧ (Blk w' b_28 [.int .i64 ((o).op), .int .i64 ((o).now), .slice ((o).peers.a) ((o).peers.len) ((o).peers.cap), .int .i64 ((o).kind), .int .i64 ((o).frm), .int .i64 ((o).req), .int .i64 ((o).owner), .int .i64 ((o).n)] 65) ∧ (OwnSl w' 23 (a_38) (c_39) (peersL T.l)) ∧ (OwnSl w' 23 (a_48) (c_49) (peersL T.l)) ∧ (TabAt w' b_6 al_592 cl_593 ((tick T ((o).now)).T)) ∧ (OwnSl w' 61 (a_598) (c_599) ((tick T ((o).now)).out)) ∧ (OwnSl w' 23 (a_600) (c_601) ((tick T ((o).now)).told)) ∧ (j ≤ (peersL T.l).length)) (fun j => (peersL T.l).length - j) 0 ?_ ?_
            · refine ⟨⟨rfl, rfl, rfl, rfl, rfl, rfl, rfl, rfl, rfl, trivial⟩, K0, hb_4, hb_31, ho_41, ho_51, hT_595, ho_602, ho_603, ?_⟩
              · omega
            clear hb_4 hb_31 ho_41 ho_51 hT_595 ho_602 ho_603
            clear K0
            rintro j ρ_628 w_626 ⟨hH_627, K0, hb_4, hb_31, ho_41, ho_51, hT_595, ho_602, ho_603, hj⟩ ih6
            obtain ⟨ρ₀, rfl⟩ := hH_627.ex
            clear hH_627
            refine Run.seq ?_
            refine Run.region ?_
            refine RL.val (x_ltI rfl rfl) ?_
            refine RL.nil ?_
            refine Run.seq ?_
            refine Run.cond rfl (fun hc118 => ?_) (fun hc118 => ?_)
            · try simp only [br] at hc118
              refine Run.skip ?_
              refine Run.seq ?_
              refine Run.block ?_
              refine Run.seq ?_
              refine Run.region ?_
              obtain ⟨b_629, o_630, p, hp, ha_631, hc_632⟩ := ho_51.sl.el (i := j) (by first | omega | (simp only [List.length_set]; omega))
              refine RL.val (x_idxN Try.underlying32 ty23 rfl rfl ha_631 (by first | omega | (simp only [List.length_set]; omega))) ?_
              refine RL.val (x_ldV (v := .agg #[.int .i64 ((p).node), .int .i64 ((p).inc), .int .i64 ((p).status)]) (y := p) ty23 rfl hc_632 rfl) ?_
              refine RL.st rfl <| St1.alloc ty23 ?_
              intro b_635 w_636 hl_639 hb_638 K_637
              replace hb_638 : Blk w_636 b_635 [.int .i64 (0), .int .i64 (0), .int .i64 (0)] 23 := hb_638
              have ne_640 : b_1 < b_635 := Nat.lt_of_lt_of_le hb_4.lt hl_639
              have ne_641 : b_28 < b_635 := Nat.lt_of_lt_of_le hb_31.lt hl_639
              have ne_642 : b_629 < b_635 := Nat.lt_of_lt_of_le hc_632.lt hl_639
              have pr_643 : ¬ own a_38 b_635 := fun h => absurd (ho_41.own_lt _ h) (by omega)
              have pr_644 : ¬ own a_48 b_635 := fun h => absurd (ho_51.own_lt _ h) (by omega)
              have pr_645 : ¬ tabS b_6 al_592 b_635 := fun h => absurd (hT_595.own_lt _ h) (by omega)
              have pr_646 : ¬ own a_598 b_635 := fun h => absurd (ho_602.own_lt _ h) (by omega)
              have pr_647 : ¬ own a_600 b_635 := fun h => absurd (ho_603.own_lt _ h) (by omega)
              have : w.heap.size ≤ b_635 := Nat.le_trans K0.size hl_639
              clear hl_639
              replace hb_4 := hb_4.ext K_637
              replace hb_31 := hb_31.ext K_637
              replace ho_41 := ho_41.ext K_637
              replace ho_51 := ho_51.ext K_637
              replace hT_595 := hT_595.ext K_637
              replace ho_602 := ho_602.ext K_637
              replace ho_603 := ho_603.ext K_637
              replace hc_632 := hc_632.ext K_637
              replace K0 := K0.ext K_637
              refine RL.st rfl <| St1.store (v := .agg #[.int .i64 ((p).node), .int .i64 ((p).inc), .int .i64 ((p).status)]) ty23 rfl rfl rfl (by simp [Value.cells, Value.oneCell']) hb_638 (by simp) ?_
              intro w_648 hb_638_ K_649
              have hb_638' : Blk w_648 b_635 [.int .i64 ((p).node), .int .i64 ((p).inc), .int .i64 ((p).status)] 23 := hb_638_
              clear hb_638_
              replace hb_4 := hb_4.keep K_649 (by simp only [one]; omega)
              replace hb_31 := hb_31.keep K_649 (by simp only [one]; omega)
              replace ho_41 := ho_41.keepO K_649 (fun q_ hq_ eq_ => pr_643 (by simp only [one] at eq_; rw [← eq_]; exact hq_))
              replace ho_51 := ho_51.keepO K_649 (fun q_ hq_ eq_ => pr_644 (by simp only [one] at eq_; rw [← eq_]; exact hq_))
              replace hT_595 := hT_595.keepO K_649 (fun q_ hq_ eq_ => pr_645 (by simp only [one] at eq_; rw [← eq_]; exact hq_))
              replace ho_602 := ho_602.keepO K_649 (fun q_ hq_ eq_ => pr_646 (by simp only [one] at eq_; rw [← eq_]; exact hq_))
              replace ho_603 := ho_603.keepO K_649 (fun q_ hq_ eq_ => pr_647 (by simp only [one] at eq_; rw [← eq_]; exact hq_))
              replace hc_632 := hc_632.keep K_649 (fun e => pr_644 (by simp only [one] at e; rw [← e]; exact (own_sub _) _ ha_631))
              replace K0 := K0.new K_649 (fun x hx => by simp only [one] at hx; omega)
              replace hb_638 := hb_638'
              clear hb_638'
              refine RL.nil ?_
              refine Run.seq ?_
              obtain ⟨hn1, hn2⟩ := never_one hok hok1 hG (mem_of_at hp)
              refine Run.region ?_
              refine RL.val (x_moveP rfl) ?_
              refine RL.st rfl <| St1.call (vals := [.pointer (some ⟨b_6, 0, none⟩)]) en23 rfl (peers_ _ _ _ ((tick T ((o).now)).T) _ hT_595.blk hT_595.ok.len) ?_
              rintro _ w_652 ⟨a_650, c_651, rfl, ho_653, hg_654, K_655⟩
              have pr_656 : ¬ own a_650 b_1 := notNew hg_654 hb_4.lt
              have pr_657 : ¬ own a_650 b_28 := notNew hg_654 hb_31.lt
              have pr_658 : ∀ q_, own a_650 q_ → ¬ own a_38 q_ := apartNew hg_654 ho_41.own_lt
              have pr_659 : ∀ q_, own a_650 q_ → ¬ own a_48 q_ := apartNew hg_654 ho_51.own_lt
              have pr_660 : ∀ q_, own a_650 q_ → ¬ tabS b_6 al_592 q_ := apartNew hg_654 hT_595.own_lt
              have pr_661 : ∀ q_, own a_650 q_ → ¬ own a_598 q_ := apartNew hg_654 ho_602.own_lt
              have pr_662 : ∀ q_, own a_650 q_ → ¬ own a_600 q_ := apartNew hg_654 ho_603.own_lt
              have pr_663 : ¬ own a_650 b_635 := notNew hg_654 hb_638.lt
              have pg_664 : ∀ q_, own a_650 q_ → w.heap.size ≤ q_ := fun q_ h => Nat.le_trans K0.size (hg_654 q_ h)
              clear hg_654
              replace hb_4 := hb_4.ext K_655
              replace hb_31 := hb_31.ext K_655
              replace ho_41 := ho_41.ext K_655
              replace ho_51 := ho_51.ext K_655
              replace hT_595 := hT_595.ext K_655
              replace ho_602 := ho_602.ext K_655
              replace ho_603 := ho_603.ext K_655
              replace hb_638 := hb_638.ext K_655
              replace K0 := K0.ext K_655
              refine RL.val (x_mkFunc (a := []) (c := [.pointer (some ⟨b_635, 0, none⟩)]) rfl rfl) ?_
              refine RL.st rfl <| St1.call (vals := [.slice (a_650) ((peersL ((tick T ((o).now)).T).l).length) (c_651), .func (.func 31) #[] #[.pointer (some ⟨b_635, 0, none⟩)]]) en28 rfl (indexFunc_peer _ _ _ 31 _ (fun x => x.node == p.node) en31 _ ho_653.sl (by omega) (fun x _ w' K' => nev2 x b_635 p w' (hb_638.ext K'))) ?_
              rintro _ w_665 ⟨rfl, K_666⟩
              replace hb_4 := hb_4.ext K_666
              replace hb_31 := hb_31.ext K_666
              replace ho_41 := ho_41.ext K_666
              replace ho_51 := ho_51.ext K_666
              replace hT_595 := hT_595.ext K_666
              replace ho_602 := ho_602.ext K_666
              replace ho_603 := ho_603.ext K_666
              replace hb_638 := hb_638.ext K_666
              replace ho_653 := ho_653.ext K_666
              replace K0 := K0.ext K_666
              refine RL.val (x_assignI rfl) ?_
              refine RL.nil ?_
              obtain ⟨k0, hk0, hkl0, hkp0, _⟩ := findI_some (p := (fun x : Peer => x.node == p.node)) (xs := (peersL ((tick T ((o).now)).T).l)) rfl hn1
              rw [hk0]
              obtain ⟨x, hx⟩ : ∃ x, (peersL ((tick T ((o).now)).T).l)[k0]? = some x := ⟨_, List.getElem?_eq_getElem hkl0⟩
              have hxn : x.node = p.node := by have := hkp0 x hx; simpa using this
              refine Run.seq ?_
              by_cases heq : x = p
              · refine Run.drawT [] (m := 21) (by kernel_rfl) rfl ?_
                intro w_667 K_668
                replace hb_4 := hb_4.ext K_668
                replace hb_31 := hb_31.ext K_668
                replace ho_41 := ho_41.ext K_668
                replace ho_51 := ho_51.ext K_668
                replace hT_595 := hT_595.ext K_668
                replace ho_602 := ho_602.ext K_668
                replace ho_603 := ho_603.ext K_668
                replace hb_638 := hb_638.ext K_668
                replace ho_653 := ho_653.ext K_668
                replace K0 := K0.ext K_668
                refine ⟨fun w' => Blk w' b_635 [.int .i64 ((p).node), .int .i64 ((p).inc), .int .i64 ((p).status)] 23 ∧ True, ?_⟩
                refine RT.takeP (v := .int .i64 (((k0 : Nat) : Int))) 0 rfl (by kernel_rfl) (.inr ⟨hb_638, trivial⟩) (fun _ => (x_moveI rfl)) ?_
                refine RT.takeP (v := .bool (false)) 1 rfl (by kernel_rfl) (.inr ⟨hb_638, trivial⟩) (fun _ => (litF (x_ltI rfl rfl) (by simp))) ?_
                refine RT.takeP (v := .bool (false)) 2 rfl (by kernel_rfl) (.inr ⟨hb_638, trivial⟩) (fun _ => (x_moveB rfl)) ?_
                refine RT.gtakeP (v := .pointer (some ⟨b_6, 0, none⟩)) 3 rfl (by kernel_rfl) (.inr ⟨hb_638, trivial⟩) (wantedF1 rfl rfl rfl rfl) (fun hg _ => (x_moveP rfl)) ?_
                refine RT.gtakeP (v := .int .i64 (((k0 : Nat) : Int))) 5 rfl (by kernel_rfl) (.inr ⟨hb_638, trivial⟩) (wantedF1 rfl rfl rfl rfl) (fun hg _ => (x_moveI rfl)) ?_
                refine RT.gtake (v := .agg #[.int .i64 ((p).node), .int .i64 ((p).inc), .int .i64 ((p).status)]) 8 rfl (by kernel_rfl) ⟨hb_638, trivial⟩ (wantedF1 rfl rfl rfl rfl) (fun hg => by rintro _ ⟨hb_638, -⟩; exact (x_lds (cs := #[.int .i64 ((p).node), .int .i64 ((p).inc), .int .i64 ((p).status)]) ty23 rfl rfl (hb_638.cl.drop 0 3))) ?_
                refine RT.gst 4 rfl (by kernel_rfl) (wantedF1 rfl rfl rfl rfl) <| St1.call (vals := [.pointer (some ⟨b_6, 0, none⟩)]) en23 rfl (peers_ _ _ _ ((tick T ((o).now)).T) _ hT_595.blk hT_595.ok.len) ?_
                rintro _ w_671 ⟨a_669, c_670, rfl, ho_672, hg_673, K_674⟩
                have pr_675 : ¬ own a_669 b_1 := notNew hg_673 hb_4.lt
                have pr_676 : ¬ own a_669 b_28 := notNew hg_673 hb_31.lt
                have pr_677 : ∀ q_, own a_669 q_ → ¬ own a_38 q_ := apartNew hg_673 ho_41.own_lt
                have pr_678 : ∀ q_, own a_669 q_ → ¬ own a_48 q_ := apartNew hg_673 ho_51.own_lt
                have pr_679 : ∀ q_, own a_669 q_ → ¬ tabS b_6 al_592 q_ := apartNew hg_673 hT_595.own_lt
                have pr_680 : ∀ q_, own a_669 q_ → ¬ own a_598 q_ := apartNew hg_673 ho_602.own_lt
                have pr_681 : ∀ q_, own a_669 q_ → ¬ own a_600 q_ := apartNew hg_673 ho_603.own_lt
                have pr_682 : ¬ own a_669 b_635 := notNew hg_673 hb_638.lt
                have pr_683 : ∀ q_, own a_669 q_ → ¬ own a_650 q_ := apartNew hg_673 ho_653.own_lt
                have pg_684 : ∀ q_, own a_669 q_ → w.heap.size ≤ q_ := fun q_ h => Nat.le_trans K0.size (hg_673 q_ h)
                clear hg_673
                replace hb_4 := hb_4.ext K_674
                replace hb_31 := hb_31.ext K_674
                replace ho_41 := ho_41.ext K_674
                replace ho_51 := ho_51.ext K_674
                replace hT_595 := hT_595.ext K_674
                replace ho_602 := ho_602.ext K_674
                replace ho_603 := ho_603.ext K_674
                replace hb_638 := hb_638.ext K_674
                replace ho_653 := ho_653.ext K_674
                replace K0 := K0.ext K_674
                refine ⟨.inr ⟨hb_638, trivial⟩, ?_⟩
                obtain ⟨b_685, o_686, x_689, hx_690, ha_687, hc_688⟩ := ho_672.sl.el (i := k0) (by omega)
                obtain rfl : x = x_689 := Option.some.inj (hx.symm.trans hx_690)
                refine RT.gtakeP (v := .pointer (some ⟨b_685, o_686 + k0 * 3, none⟩)) 6 rfl (by kernel_rfl) (.inr ⟨hb_638, trivial⟩) (wantedF1 rfl rfl rfl rfl) (fun hg _ => (x_idxN Try.underlying32 ty23 rfl rfl ha_687 (by omega))) ?_
                refine RT.gst 7 rfl (by kernel_rfl) (wantedF1 rfl rfl rfl rfl) <| St1.val (x_ldV (v := .agg #[.int .i64 ((x).node), .int .i64 ((x).inc), .int .i64 ((x).status)]) (y := x) ty23 rfl hc_688 rfl) ?_
                refine ⟨.inr ⟨hb_638, trivial⟩, ?_⟩
                refine RT.gtakeP (v := .bool (false)) 9 rfl (by kernel_rfl) (.inr ⟨hb_638, trivial⟩) (wantedF1 rfl rfl rfl rfl) (fun hg _ => (litF (x_neA (by kernel_rfl) rfl rfl (eq_Peer x p)) (by simp [heq]))) ?_
                refine RT.gtakeP (v := .bool (false)) 10 rfl (by kernel_rfl) (.inr ⟨hb_638, trivial⟩) (wantedF1 rfl rfl rfl rfl) (fun hg _ => (x_moveB rfl)) ?_
                refine RT.gtakeP (v := undef) 11 rfl (by kernel_rfl) (.inr ⟨hb_638, trivial⟩) (wantedT0 rfl rfl rfl rfl) (fun hg => by cases hg) ?_
                refine RT.gtakeP (v := undef) 13 rfl (by kernel_rfl) (.inr ⟨hb_638, trivial⟩) (wantedT0 rfl rfl rfl rfl) (fun hg => by cases hg) ?_
                refine RT.gtakeP (v := undef) 16 rfl (by kernel_rfl) (.inr ⟨hb_638, trivial⟩) (wantedT0 rfl rfl rfl rfl) (fun hg => by cases hg) ?_
                refine RT.gT 12 rfl (by kernel_rfl) (wantedT0 rfl rfl rfl rfl) (.inr ⟨hb_638, trivial⟩) ?_
                refine RT.gtakeP (v := undef) 14 rfl (by kernel_rfl) (.inr ⟨hb_638, trivial⟩) (wantedT0 rfl rfl rfl rfl) (fun hg => by cases hg) ?_
                refine RT.gtakeP (v := undef) 15 rfl (by kernel_rfl) (.inr ⟨hb_638, trivial⟩) (wantedT0 rfl rfl rfl rfl) (fun hg => by cases hg) ?_
                refine RT.gT 17 rfl (by kernel_rfl) (wantedT0 rfl rfl rfl rfl) (.inr ⟨hb_638, trivial⟩) ?_
                refine RT.gtakeP (v := undef) 18 rfl (by kernel_rfl) (.inr ⟨hb_638, trivial⟩) (wantedT0 rfl rfl rfl rfl) (fun hg => by cases hg) ?_
                refine RT.gtakeP (v := .bool (false)) 19 rfl (by kernel_rfl) (.inr ⟨hb_638, trivial⟩) (wantedF1 rfl rfl rfl rfl) (fun hg _ => (x_and (b := false) (e := false) rfl rfl rfl)) ?_
                refine RT.takeP (v := .bool (false)) 20 rfl (by kernel_rfl) (.inr ⟨hb_638, trivial⟩) (fun _ => (x_orF rfl rfl rfl)) ?_
                refine RT.done (by kernel_rfl) ?_
                refine Run.condF rfl ?_
                refine Run.skip ?_
                refine Run.inBlock ?_
                refine Run.region ?_
                refine RL.val (litI (c := ((j + 1 : Nat) : Int)) (x_add rfl rfl (by omega) (by omega)) rfl) ?_
                refine RL.val (x_moveI rfl) ?_
                refine RL.nil ?_
                refine ih6 (j + 1) _ _ ?_ (by omega)
                refine ⟨⟨rfl, rfl, rfl, rfl, rfl, rfl, rfl, rfl, rfl, trivial⟩, K0, hb_4, hb_31, ho_41, ho_51, hT_595, ho_602, ho_603, ?_⟩
                · omega
              · refine Run.drawT [] (m := 21) (by kernel_rfl) rfl ?_
                intro w_691 K_692
                replace hb_4 := hb_4.ext K_692
                replace hb_31 := hb_31.ext K_692
                replace ho_41 := ho_41.ext K_692
                replace ho_51 := ho_51.ext K_692
                replace hT_595 := hT_595.ext K_692
                replace ho_602 := ho_602.ext K_692
                replace ho_603 := ho_603.ext K_692
                replace hb_638 := hb_638.ext K_692
                replace ho_653 := ho_653.ext K_692
                replace K0 := K0.ext K_692
                refine ⟨fun w' => Blk w' b_635 [.int .i64 ((p).node), .int .i64 ((p).inc), .int .i64 ((p).status)] 23 ∧ True, ?_⟩
                refine RT.takeP (v := .int .i64 (((k0 : Nat) : Int))) 0 rfl (by kernel_rfl) (.inr ⟨hb_638, trivial⟩) (fun _ => (x_moveI rfl)) ?_
                refine RT.takeP (v := .bool (false)) 1 rfl (by kernel_rfl) (.inr ⟨hb_638, trivial⟩) (fun _ => (litF (x_ltI rfl rfl) (by simp))) ?_
                refine RT.takeP (v := .bool (false)) 2 rfl (by kernel_rfl) (.inr ⟨hb_638, trivial⟩) (fun _ => (x_moveB rfl)) ?_
                refine RT.gtakeP (v := .pointer (some ⟨b_6, 0, none⟩)) 3 rfl (by kernel_rfl) (.inr ⟨hb_638, trivial⟩) (wantedF1 rfl rfl rfl rfl) (fun hg _ => (x_moveP rfl)) ?_
                refine RT.gtakeP (v := .int .i64 (((k0 : Nat) : Int))) 5 rfl (by kernel_rfl) (.inr ⟨hb_638, trivial⟩) (wantedF1 rfl rfl rfl rfl) (fun hg _ => (x_moveI rfl)) ?_
                refine RT.gtake (v := .agg #[.int .i64 ((p).node), .int .i64 ((p).inc), .int .i64 ((p).status)]) 8 rfl (by kernel_rfl) ⟨hb_638, trivial⟩ (wantedF1 rfl rfl rfl rfl) (fun hg => by rintro _ ⟨hb_638, -⟩; exact (x_lds (cs := #[.int .i64 ((p).node), .int .i64 ((p).inc), .int .i64 ((p).status)]) ty23 rfl rfl (hb_638.cl.drop 0 3))) ?_
                refine RT.gst 4 rfl (by kernel_rfl) (wantedF1 rfl rfl rfl rfl) <| St1.call (vals := [.pointer (some ⟨b_6, 0, none⟩)]) en23 rfl (peers_ _ _ _ ((tick T ((o).now)).T) _ hT_595.blk hT_595.ok.len) ?_
                rintro _ w_695 ⟨a_693, c_694, rfl, ho_696, hg_697, K_698⟩
                have pr_699 : ¬ own a_693 b_1 := notNew hg_697 hb_4.lt
                have pr_700 : ¬ own a_693 b_28 := notNew hg_697 hb_31.lt
                have pr_701 : ∀ q_, own a_693 q_ → ¬ own a_38 q_ := apartNew hg_697 ho_41.own_lt
                have pr_702 : ∀ q_, own a_693 q_ → ¬ own a_48 q_ := apartNew hg_697 ho_51.own_lt
                have pr_703 : ∀ q_, own a_693 q_ → ¬ tabS b_6 al_592 q_ := apartNew hg_697 hT_595.own_lt
                have pr_704 : ∀ q_, own a_693 q_ → ¬ own a_598 q_ := apartNew hg_697 ho_602.own_lt
                have pr_705 : ∀ q_, own a_693 q_ → ¬ own a_600 q_ := apartNew hg_697 ho_603.own_lt
                have pr_706 : ¬ own a_693 b_635 := notNew hg_697 hb_638.lt
                have pr_707 : ∀ q_, own a_693 q_ → ¬ own a_650 q_ := apartNew hg_697 ho_653.own_lt
                have pg_708 : ∀ q_, own a_693 q_ → w.heap.size ≤ q_ := fun q_ h => Nat.le_trans K0.size (hg_697 q_ h)
                clear hg_697
                replace hb_4 := hb_4.ext K_698
                replace hb_31 := hb_31.ext K_698
                replace ho_41 := ho_41.ext K_698
                replace ho_51 := ho_51.ext K_698
                replace hT_595 := hT_595.ext K_698
                replace ho_602 := ho_602.ext K_698
                replace ho_603 := ho_603.ext K_698
                replace hb_638 := hb_638.ext K_698
                replace ho_653 := ho_653.ext K_698
                replace K0 := K0.ext K_698
                refine ⟨.inr ⟨hb_638, trivial⟩, ?_⟩
                obtain ⟨b_709, o_710, x_713, hx_714, ha_711, hc_712⟩ := ho_696.sl.el (i := k0) (by omega)
                obtain rfl : x = x_713 := Option.some.inj (hx.symm.trans hx_714)
                refine RT.gtakeP (v := .pointer (some ⟨b_709, o_710 + k0 * 3, none⟩)) 6 rfl (by kernel_rfl) (.inr ⟨hb_638, trivial⟩) (wantedF1 rfl rfl rfl rfl) (fun hg _ => (x_idxN Try.underlying32 ty23 rfl rfl ha_711 (by omega))) ?_
                refine RT.gst 7 rfl (by kernel_rfl) (wantedF1 rfl rfl rfl rfl) <| St1.val (x_ldV (v := .agg #[.int .i64 ((x).node), .int .i64 ((x).inc), .int .i64 ((x).status)]) (y := x) ty23 rfl hc_712 rfl) ?_
                refine ⟨.inr ⟨hb_638, trivial⟩, ?_⟩
                refine RT.gtakeP (v := .bool (true)) 9 rfl (by kernel_rfl) (.inr ⟨hb_638, trivial⟩) (wantedF1 rfl rfl rfl rfl) (fun hg _ => (litT (x_neA (by kernel_rfl) rfl rfl (eq_Peer x p)) (by simp [heq]))) ?_
                refine RT.gtakeP (v := .bool (true)) 10 rfl (by kernel_rfl) (.inr ⟨hb_638, trivial⟩) (wantedF1 rfl rfl rfl rfl) (fun hg _ => (x_moveB rfl)) ?_
                refine RT.gtakeP (v := .pointer (some ⟨b_6, 0, none⟩)) 11 rfl (by kernel_rfl) (.inr ⟨hb_638, trivial⟩) (wantedT1 rfl rfl rfl rfl) (fun hg _ => (x_moveP rfl)) ?_
                refine RT.gtakeP (v := .int .i64 (((k0 : Nat) : Int))) 13 rfl (by kernel_rfl) (.inr ⟨hb_638, trivial⟩) (wantedT1 rfl rfl rfl rfl) (fun hg _ => (x_moveI rfl)) ?_
                refine RT.gtake (v := .agg #[.int .i64 ((p).node), .int .i64 ((p).inc), .int .i64 ((p).status)]) 16 rfl (by kernel_rfl) ⟨hb_638, trivial⟩ (wantedT1 rfl rfl rfl rfl) (fun hg => by rintro _ ⟨hb_638, -⟩; exact (x_lds (cs := #[.int .i64 ((p).node), .int .i64 ((p).inc), .int .i64 ((p).status)]) ty23 rfl rfl (hb_638.cl.drop 0 3))) ?_
                refine RT.gst 12 rfl (by kernel_rfl) (wantedT1 rfl rfl rfl rfl) <| St1.call (vals := [.pointer (some ⟨b_6, 0, none⟩)]) en23 rfl (peers_ _ _ _ ((tick T ((o).now)).T) _ hT_595.blk hT_595.ok.len) ?_
                rintro _ w_717 ⟨a_715, c_716, rfl, ho_718, hg_719, K_720⟩
                have pr_721 : ¬ own a_715 b_1 := notNew hg_719 hb_4.lt
                have pr_722 : ¬ own a_715 b_28 := notNew hg_719 hb_31.lt
                have pr_723 : ∀ q_, own a_715 q_ → ¬ own a_38 q_ := apartNew hg_719 ho_41.own_lt
                have pr_724 : ∀ q_, own a_715 q_ → ¬ own a_48 q_ := apartNew hg_719 ho_51.own_lt
                have pr_725 : ∀ q_, own a_715 q_ → ¬ tabS b_6 al_592 q_ := apartNew hg_719 hT_595.own_lt
                have pr_726 : ∀ q_, own a_715 q_ → ¬ own a_598 q_ := apartNew hg_719 ho_602.own_lt
                have pr_727 : ∀ q_, own a_715 q_ → ¬ own a_600 q_ := apartNew hg_719 ho_603.own_lt
                have pr_728 : ¬ own a_715 b_635 := notNew hg_719 hb_638.lt
                have pr_729 : ∀ q_, own a_715 q_ → ¬ own a_650 q_ := apartNew hg_719 ho_653.own_lt
                have pr_730 : ∀ q_, own a_715 q_ → ¬ own a_693 q_ := apartNew hg_719 ho_696.own_lt
                have pg_731 : ∀ q_, own a_715 q_ → w.heap.size ≤ q_ := fun q_ h => Nat.le_trans K0.size (hg_719 q_ h)
                clear hg_719
                replace hb_4 := hb_4.ext K_720
                replace hb_31 := hb_31.ext K_720
                replace ho_41 := ho_41.ext K_720
                replace ho_51 := ho_51.ext K_720
                replace hT_595 := hT_595.ext K_720
                replace ho_602 := ho_602.ext K_720
                replace ho_603 := ho_603.ext K_720
                replace hb_638 := hb_638.ext K_720
                replace ho_653 := ho_653.ext K_720
                replace ho_696 := ho_696.ext K_720
                replace hc_712 := hc_712.ext K_720
                replace K0 := K0.ext K_720
                refine ⟨.inr ⟨hb_638, trivial⟩, ?_⟩
                obtain ⟨b_732, o_733, x_736, hx_737, ha_734, hc_735⟩ := ho_718.sl.el (i := k0) (by omega)
                obtain rfl : x = x_736 := Option.some.inj (hx.symm.trans hx_737)
                refine RT.gtakeP (v := .pointer (some ⟨b_732, o_733 + k0 * 3, none⟩)) 14 rfl (by kernel_rfl) (.inr ⟨hb_638, trivial⟩) (wantedT1 rfl rfl rfl rfl) (fun hg _ => (x_idxN Try.underlying32 ty23 rfl rfl ha_734 (by omega))) ?_
                refine RT.gst 15 rfl (by kernel_rfl) (wantedT1 rfl rfl rfl rfl) <| St1.val (x_ldV (v := .agg #[.int .i64 ((x).node), .int .i64 ((x).inc), .int .i64 ((x).status)]) (y := x) ty23 rfl hc_735 rfl) ?_
                refine ⟨.inr ⟨hb_638, trivial⟩, ?_⟩
                refine RT.gst 17 rfl (by kernel_rfl) (wantedT1 rfl rfl rfl rfl) <| St1.call (vals := [.agg #[.int .i64 ((x).node), .int .i64 ((x).inc), .int .i64 ((x).status)], .agg #[.int .i64 ((p).node), .int .i64 ((p).inc), .int .i64 ((p).status)]]) en12 rfl (greaterR_ x p _) ?_
                rintro _ w_738 ⟨rfl, K_739⟩
                replace hb_4 := hb_4.ext K_739
                replace hb_31 := hb_31.ext K_739
                replace ho_41 := ho_41.ext K_739
                replace ho_51 := ho_51.ext K_739
                replace hT_595 := hT_595.ext K_739
                replace ho_602 := ho_602.ext K_739
                replace ho_603 := ho_603.ext K_739
                replace hb_638 := hb_638.ext K_739
                replace ho_653 := ho_653.ext K_739
                replace ho_696 := ho_696.ext K_739
                replace hc_712 := hc_712.ext K_739
                replace ho_718 := ho_718.ext K_739
                replace hc_735 := hc_735.ext K_739
                replace K0 := K0.ext K_739
                refine ⟨.inr ⟨hb_638, trivial⟩, ?_⟩
                refine RT.gtakeP (v := .bool (false)) 18 rfl (by kernel_rfl) (.inr ⟨hb_638, trivial⟩) (wantedT1 rfl rfl rfl rfl) (fun hg _ => (litF (x_not rfl) (by rcases hn2 x (mem_of_at hx) hxn with h | h <;> simp_all))) ?_
                refine RT.gtakeP (v := .bool (false)) 19 rfl (by kernel_rfl) (.inr ⟨hb_638, trivial⟩) (wantedF1 rfl rfl rfl rfl) (fun hg _ => (x_andT rfl rfl rfl)) ?_
                refine RT.takeP (v := .bool (false)) 20 rfl (by kernel_rfl) (.inr ⟨hb_638, trivial⟩) (fun _ => (x_orF rfl rfl rfl)) ?_
                refine RT.done (by kernel_rfl) ?_
                refine Run.condF rfl ?_
                refine Run.skip ?_
                refine Run.inBlock ?_
                refine Run.region ?_
                refine RL.val (litI (c := ((j + 1 : Nat) : Int)) (x_add rfl rfl (by omega) (by omega)) rfl) ?_
                refine RL.val (x_moveI rfl) ?_
                refine RL.nil ?_
                refine ih6 (j + 1) _ _ ?_ (by omega)
                refine ⟨⟨rfl, rfl, rfl, rfl, rfl, rfl, rfl, rfl, rfl, trivial⟩, K0, hb_4, hb_31, ho_41, ho_51, hT_595, ho_602, ho_603, ?_⟩
                · omega
            · try simp only [br] at hc118
              refine Run.exit rfl ?_
              refine Run.seq ?_
              have hse2 := never_self hok1 hN1 hn
              refine Run.region ?_
              refine RL.val (x_moveP rfl) ?_
              refine RL.val (x_ld (v := .int .i64 (n)) ty3 rfl rfl (hb_4.cl.field (i := 0) rfl)) ?_
              refine RL.st rfl <| St1.call (vals := [.pointer (some ⟨b_6, 0, none⟩), .int .i64 (n)]) en17 rfl (status_ _ _ _ ((tick T ((o).now)).T) n _ hT_595.blk hT_595.ok.len) ?_
              rintro _ w_740 ⟨rfl, K_741⟩
              replace hb_4 := hb_4.ext K_741
              replace hb_31 := hb_31.ext K_741
              replace ho_41 := ho_41.ext K_741
              replace ho_51 := ho_51.ext K_741
              replace hT_595 := hT_595.ext K_741
              replace ho_602 := ho_602.ext K_741
              replace ho_603 := ho_603.ext K_741
              replace K0 := K0.ext K_741
              refine RL.val (litF (x_neI rfl rfl) (by rw [hse2.2]; rfl)) ?_
              refine RL.nil ?_
              refine Run.condF rfl ?_
              refine Run.skip ?_
              refine Run.inBlock ?_
              refine Run.region ?_
              refine RL.val (litI (c := ((i + 1 : Nat) : Int)) (x_add rfl rfl (by omega) (by omega)) rfl) ?_
              refine RL.val (x_moveI rfl) ?_
              refine RL.nil ?_
              refine ih1 (i + 1) _ _ ?_ (by omega)
              refine ⟨_, _, _, ⟨rfl, rfl, rfl, rfl, rfl, trivial⟩, K0, hb_4, hT_595, pr_621, pg_625, ?_, ?_, ?_⟩
              · omega
              · exact hN1
              · omega
          · try simp only [br] at hc108
            refine Run.drawT [] (m := 7) (by kernel_rfl) rfl ?_
            intro w_742 K_743
            replace hb_4 := hb_4.ext K_743
            replace hO_18 := hO_18.ext K_743
            replace hb_31 := hb_31.ext K_743
            replace ho_41 := ho_41.ext K_743
            replace ho_51 := ho_51.ext K_743
            replace K0 := K0.ext K_743
            refine ⟨fun w' => Blk w' b_1 [.int .i64 (n)] 3 ∧ Blk w' b_28 [.int .i64 ((o).op), .int .i64 ((o).now), .slice ((o).peers.a) ((o).peers.len) ((o).peers.cap), .int .i64 ((o).kind), .int .i64 ((o).frm), .int .i64 ((o).req), .int .i64 ((o).owner), .int .i64 ((o).n)] 65 ∧ True, ?_⟩
            refine RT.takeP (v := .pointer (some ⟨b_6, 0, none⟩)) 0 rfl (by kernel_rfl) (.inr ⟨hb_4, hb_31, trivial⟩) (fun _ => (x_moveP rfl)) ?_
            refine RT.take (v := .agg #[.int .i64 ((o).op), .int .i64 ((o).now), .slice ((o).peers.a) ((o).peers.len) ((o).peers.cap), .int .i64 ((o).kind), .int .i64 ((o).frm), .int .i64 ((o).req), .int .i64 ((o).owner), .int .i64 ((o).n)]) 1 rfl (by kernel_rfl) ⟨hb_4, hb_31, trivial⟩ (by rintro _ ⟨hb_4, hb_31, -⟩; exact (x_lds (cs := #[.int .i64 ((o).op), .int .i64 ((o).now), .slice ((o).peers.a) ((o).peers.len) ((o).peers.cap), .int .i64 ((o).kind), .int .i64 ((o).frm), .int .i64 ((o).req), .int .i64 ((o).owner), .int .i64 ((o).n)]) ty65 rfl rfl (hb_31.cl.drop 0 8))) ?_
            refine RT.take (v := .int .i64 (n)) 2 rfl (by kernel_rfl) ⟨hb_4, hb_31, trivial⟩ (by rintro _ ⟨hb_4, hb_31, -⟩; exact (x_ld (v := .int .i64 (n)) ty3 rfl rfl (hb_4.cl.field (i := 0) rfl))) ?_
            refine RT.takeP (v := .pointer (some ⟨b_28, 1, none⟩)) 4 rfl (by kernel_rfl) (.inr ⟨hb_4, hb_31, trivial⟩) (fun _ => (x_fld (o' := 1) Try.underlying65 rfl ty3 rfl rfl rfl)) ?_
            refine RT.take (v := .int .i64 ((o).now)) 5 rfl (by kernel_rfl) ⟨hb_4, hb_31, trivial⟩ (by rintro _ ⟨hb_4, hb_31, -⟩; exact (x_ld (v := .int .i64 ((o).now)) ty3 rfl rfl (hb_31.cl.field (i := 1) rfl))) ?_
            refine RT.st 3 rfl (by kernel_rfl) rfl <| St1.call (vals := [.agg #[.int .i64 ((o).op), .int .i64 ((o).now), .slice ((o).peers.a) ((o).peers.len) ((o).peers.cap), .int .i64 ((o).kind), .int .i64 ((o).frm), .int .i64 ((o).req), .int .i64 ((o).owner), .int .i64 ((o).n)], .int .i64 (n)]) en27 rfl (msg_ o n _) ?_
            rintro _ w_744 ⟨rfl, K_745⟩
            replace hb_4 := hb_4.ext K_745
            replace hO_18 := hO_18.ext K_745
            replace hb_31 := hb_31.ext K_745
            replace ho_41 := ho_41.ext K_745
            replace ho_51 := ho_51.ext K_745
            replace K0 := K0.ext K_745
            refine ⟨.inr ⟨hb_4, hb_31, trivial⟩, ?_⟩
            refine RT.st 6 rfl (by kernel_rfl) rfl <| St1.call (vals := [.pointer (some ⟨b_6, 0, none⟩), .agg #[.int .i64 ((msgOf o n).kind), .int .i64 ((msgOf o n).frm), .int .i64 ((msgOf o n).to), .int .i64 ((msgOf o n).req), .string ((msgOf o n).key), .slice ((msgOf o n).entries.a) ((msgOf o n).entries.len) ((msgOf o n).entries.cap), .slice ((msgOf o n).marks.a) ((msgOf o n).marks.len) ((msgOf o n).marks.cap), .slice ((msgOf o n).cloud.a) ((msgOf o n).cloud.len) ((msgOf o n).cloud.cap), .int .i64 ((msgOf o n).owner), .int .i64 ((msgOf o n).part), .int .i64 ((msgOf o n).n), .int .i64 ((msgOf o n).rparts), .int .i64 ((msgOf o n).rcopies), .int .i64 ((msgOf o n).rspots), .slice ((msgOf o n).members.a) ((msgOf o n).members.len) ((msgOf o n).members.cap), .slice ((msgOf o n).peers.a) ((msgOf o n).peers.len) ((msgOf o n).peers.cap), .slice ((msgOf o n).sums.a) ((msgOf o n).sums.len) ((msgOf o n).sums.cap)], .int .i64 ((o).now)]) en26 rfl (on_ _ _ _ T (msgOf o n) ((o).now) _ hO_18 (by omega) (by omega)) ?_
            rintro _ w_748 ⟨al_746, cl_747, a_752, c_753, a_754, c_755, rfl, hT_749, ho_756, ho_757, hg_758, hg_759, pr_760, pr_761, pr_762, hm_750, K_751⟩
            have pr_763 : ¬ own a_752 b_1 := notNew hg_758 hb_4.lt
            have pr_764 : ∀ q_, own a_752 q_ → ¬ tabS b_6 alb q_ := apartNew hg_758 hO_18.own_lt
            have pr_765 : ¬ own a_752 b_28 := notNew hg_758 hb_31.lt
            have pr_766 : ∀ q_, own a_752 q_ → ¬ own a_38 q_ := apartNew hg_758 ho_41.own_lt
            have pr_767 : ∀ q_, own a_752 q_ → ¬ own a_48 q_ := apartNew hg_758 ho_51.own_lt
            have pg_768 : ∀ q_, own a_752 q_ → w.heap.size ≤ q_ := fun q_ h => Nat.le_trans K0.size (hg_758 q_ h)
            have pr_769 : ¬ own a_754 b_1 := notNew hg_759 hb_4.lt
            have pr_770 : ∀ q_, own a_754 q_ → ¬ tabS b_6 alb q_ := apartNew hg_759 hO_18.own_lt
            have pr_771 : ¬ own a_754 b_28 := notNew hg_759 hb_31.lt
            have pr_772 : ∀ q_, own a_754 q_ → ¬ own a_38 q_ := apartNew hg_759 ho_41.own_lt
            have pr_773 : ∀ q_, own a_754 q_ → ¬ own a_48 q_ := apartNew hg_759 ho_51.own_lt
            have pg_774 : ∀ q_, own a_754 q_ → w.heap.size ≤ q_ := fun q_ h => Nat.le_trans K0.size (hg_759 q_ h)
            have pr_775 : ¬ tabS b_6 al_746 b_1 := hm_750.not pr_19 hb_4.lt
            have pr_776 : ¬ tabS b_6 al_746 b_28 := hm_750.not pr_35 hb_31.lt
            have pr_777 : ∀ q_, tabS b_6 al_746 q_ → ¬ own a_38 q_ := hm_750.apart (fun q_ h1 h2 => pr_45 q_ h2 h1) ho_41.own_lt
            have pr_778 : ∀ q_, tabS b_6 al_746 q_ → ¬ own a_48 q_ := hm_750.apart (fun q_ h1 h2 => pr_55 q_ h2 h1) ho_51.own_lt
            have pg_779 : ∀ q_, tabS b_6 al_746 q_ → w.heap.size ≤ q_ := hm_750.ge pr_20 K0.size
            replace hb_4 := hb_4.keep K_751 pr_19
            replace hb_31 := hb_31.keep K_751 pr_35
            replace ho_41 := ho_41.keepO K_751 pr_45
            replace ho_51 := ho_51.keepO K_751 pr_55
            replace K0 := K0.new K_751 pr_20
            clear hm_750
            clear hg_758 hg_759
            refine ⟨.inr ⟨hb_4, hb_31, trivial⟩, ?_⟩
            refine RT.done (by kernel_rfl) ?_
            obtain ⟨hN1, hG⟩ := nev_on (m := msgOf o n) (t := o.now) hok hN hn
            have hok1 := hT_749.ok
            have hpL1 := peersL_len ((on T (msgOf o n) ((o).now)).T).l
            have hl81 := hok1.len
            have hpl3 := (on_ok (m := msgOf o n) (t := o.now) hok (by omega)).2.2.2
            refine Run.inBlock ?_
            refine Run.seq ?_
            refine Run.seq ?_
            refine Run.region ?_
            refine RL.val (x_moveSl rfl) ?_
            refine RL.val (x_lenSl Try.underlying32 rfl) ?_
            refine RL.val (x_moveI rfl) ?_
            refine RL.nil ?_
            refine Run.block ?_
            refine Run.loop (ι := Nat) (fun j ρ' w' => Holds ρ' [(2, .pointer (some ⟨b_1, 0, none⟩)), (5, .pointer (some ⟨b_6, 0, none⟩)), (33, .slice (as0) (script.length) (cs0)), (34, .int .i64 (((script.length : Nat) : Int))), (35, .int .i64 (((i : Nat) : Int))), (36, .bool (decide (((i : Nat) : Int) < ((script.length : Nat) : Int)))), (115, .slice (a_48) ((peersL T.l).length) (c_49)), (116, .int .i64 ((((peersL T.l).length : Nat) : Int))), (117, .int .i64 (((j : Nat) : Int)))] ∧ Ext w w' ∧ (Blk w' b_1 [.int .i64 (n)] 3) ∧ (Blk w' b_28 [.int .i64 ((o).op), .int .i64 ((o).now), .slice ((o).peers.a) ((o).peers.len) ((o).peers.cap), .int .i64 ((o).kind), .int .i64 ((o).frm), .int .i64 ((o).req), .int .i64 ((o).owner), .int .i64 ((o).n)] 65) ∧ (OwnSl w' 23 (a_38) (c_39) (peersL T.l)) ∧ (OwnSl w' 23 (a_48) (c_49) (peersL T.l)) ∧ (TabAt w' b_6 al_746 cl_747 ((on T (msgOf o n) ((o).now)).T)) ∧ (OwnSl w' 61 (a_752) (c_753) ((on T (msgOf o n) ((o).now)).out)) ∧ (OwnSl w' 23 (a_754) (c_755) ((on T (msgOf o n) ((o).now)).told)) ∧ (j ≤ (peersL T.l).length)) (fun j => (peersL T.l).length - j) 0 ?_ ?_
            · refine ⟨⟨rfl, rfl, rfl, rfl, rfl, rfl, rfl, rfl, rfl, trivial⟩, K0, hb_4, hb_31, ho_41, ho_51, hT_749, ho_756, ho_757, ?_⟩
              · omega
            clear hb_4 hb_31 ho_41 ho_51 hT_749 ho_756 ho_757
            clear K0
            rintro j ρ_782 w_780 ⟨hH_781, K0, hb_4, hb_31, ho_41, ho_51, hT_749, ho_756, ho_757, hj⟩ ih7
            obtain ⟨ρ₀, rfl⟩ := hH_781.ex
            clear hH_781
            refine Run.seq ?_
            refine Run.region ?_
            refine RL.val (x_ltI rfl rfl) ?_
            refine RL.nil ?_
            refine Run.seq ?_
            refine Run.cond rfl (fun hc118 => ?_) (fun hc118 => ?_)
            · try simp only [br] at hc118
              refine Run.skip ?_
              refine Run.seq ?_
              refine Run.block ?_
              refine Run.seq ?_
              refine Run.region ?_
              obtain ⟨b_783, o_784, p, hp, ha_785, hc_786⟩ := ho_51.sl.el (i := j) (by first | omega | (simp only [List.length_set]; omega))
              refine RL.val (x_idxN Try.underlying32 ty23 rfl rfl ha_785 (by first | omega | (simp only [List.length_set]; omega))) ?_
              refine RL.val (x_ldV (v := .agg #[.int .i64 ((p).node), .int .i64 ((p).inc), .int .i64 ((p).status)]) (y := p) ty23 rfl hc_786 rfl) ?_
              refine RL.st rfl <| St1.alloc ty23 ?_
              intro b_789 w_790 hl_793 hb_792 K_791
              replace hb_792 : Blk w_790 b_789 [.int .i64 (0), .int .i64 (0), .int .i64 (0)] 23 := hb_792
              have ne_794 : b_1 < b_789 := Nat.lt_of_lt_of_le hb_4.lt hl_793
              have ne_795 : b_28 < b_789 := Nat.lt_of_lt_of_le hb_31.lt hl_793
              have ne_796 : b_783 < b_789 := Nat.lt_of_lt_of_le hc_786.lt hl_793
              have pr_797 : ¬ own a_38 b_789 := fun h => absurd (ho_41.own_lt _ h) (by omega)
              have pr_798 : ¬ own a_48 b_789 := fun h => absurd (ho_51.own_lt _ h) (by omega)
              have pr_799 : ¬ tabS b_6 al_746 b_789 := fun h => absurd (hT_749.own_lt _ h) (by omega)
              have pr_800 : ¬ own a_752 b_789 := fun h => absurd (ho_756.own_lt _ h) (by omega)
              have pr_801 : ¬ own a_754 b_789 := fun h => absurd (ho_757.own_lt _ h) (by omega)
              have : w.heap.size ≤ b_789 := Nat.le_trans K0.size hl_793
              clear hl_793
              replace hb_4 := hb_4.ext K_791
              replace hb_31 := hb_31.ext K_791
              replace ho_41 := ho_41.ext K_791
              replace ho_51 := ho_51.ext K_791
              replace hT_749 := hT_749.ext K_791
              replace ho_756 := ho_756.ext K_791
              replace ho_757 := ho_757.ext K_791
              replace hc_786 := hc_786.ext K_791
              replace K0 := K0.ext K_791
              refine RL.st rfl <| St1.store (v := .agg #[.int .i64 ((p).node), .int .i64 ((p).inc), .int .i64 ((p).status)]) ty23 rfl rfl rfl (by simp [Value.cells, Value.oneCell']) hb_792 (by simp) ?_
              intro w_802 hb_792_ K_803
              have hb_792' : Blk w_802 b_789 [.int .i64 ((p).node), .int .i64 ((p).inc), .int .i64 ((p).status)] 23 := hb_792_
              clear hb_792_
              replace hb_4 := hb_4.keep K_803 (by simp only [one]; omega)
              replace hb_31 := hb_31.keep K_803 (by simp only [one]; omega)
              replace ho_41 := ho_41.keepO K_803 (fun q_ hq_ eq_ => pr_797 (by simp only [one] at eq_; rw [← eq_]; exact hq_))
              replace ho_51 := ho_51.keepO K_803 (fun q_ hq_ eq_ => pr_798 (by simp only [one] at eq_; rw [← eq_]; exact hq_))
              replace hT_749 := hT_749.keepO K_803 (fun q_ hq_ eq_ => pr_799 (by simp only [one] at eq_; rw [← eq_]; exact hq_))
              replace ho_756 := ho_756.keepO K_803 (fun q_ hq_ eq_ => pr_800 (by simp only [one] at eq_; rw [← eq_]; exact hq_))
              replace ho_757 := ho_757.keepO K_803 (fun q_ hq_ eq_ => pr_801 (by simp only [one] at eq_; rw [← eq_]; exact hq_))
              replace hc_786 := hc_786.keep K_803 (fun e => pr_798 (by simp only [one] at e; rw [← e]; exact (own_sub _) _ ha_785))
              replace K0 := K0.new K_803 (fun x hx => by simp only [one] at hx; omega)
              replace hb_792 := hb_792'
              clear hb_792'
              refine RL.nil ?_
              refine Run.seq ?_
              obtain ⟨hn1, hn2⟩ := never_one hok hok1 hG (mem_of_at hp)
              refine Run.region ?_
              refine RL.val (x_moveP rfl) ?_
              refine RL.st rfl <| St1.call (vals := [.pointer (some ⟨b_6, 0, none⟩)]) en23 rfl (peers_ _ _ _ ((on T (msgOf o n) ((o).now)).T) _ hT_749.blk hT_749.ok.len) ?_
              rintro _ w_806 ⟨a_804, c_805, rfl, ho_807, hg_808, K_809⟩
              have pr_810 : ¬ own a_804 b_1 := notNew hg_808 hb_4.lt
              have pr_811 : ¬ own a_804 b_28 := notNew hg_808 hb_31.lt
              have pr_812 : ∀ q_, own a_804 q_ → ¬ own a_38 q_ := apartNew hg_808 ho_41.own_lt
              have pr_813 : ∀ q_, own a_804 q_ → ¬ own a_48 q_ := apartNew hg_808 ho_51.own_lt
              have pr_814 : ∀ q_, own a_804 q_ → ¬ tabS b_6 al_746 q_ := apartNew hg_808 hT_749.own_lt
              have pr_815 : ∀ q_, own a_804 q_ → ¬ own a_752 q_ := apartNew hg_808 ho_756.own_lt
              have pr_816 : ∀ q_, own a_804 q_ → ¬ own a_754 q_ := apartNew hg_808 ho_757.own_lt
              have pr_817 : ¬ own a_804 b_789 := notNew hg_808 hb_792.lt
              have pg_818 : ∀ q_, own a_804 q_ → w.heap.size ≤ q_ := fun q_ h => Nat.le_trans K0.size (hg_808 q_ h)
              clear hg_808
              replace hb_4 := hb_4.ext K_809
              replace hb_31 := hb_31.ext K_809
              replace ho_41 := ho_41.ext K_809
              replace ho_51 := ho_51.ext K_809
              replace hT_749 := hT_749.ext K_809
              replace ho_756 := ho_756.ext K_809
              replace ho_757 := ho_757.ext K_809
              replace hb_792 := hb_792.ext K_809
              replace K0 := K0.ext K_809
              refine RL.val (x_mkFunc (a := []) (c := [.pointer (some ⟨b_789, 0, none⟩)]) rfl rfl) ?_
              refine RL.st rfl <| St1.call (vals := [.slice (a_804) ((peersL ((on T (msgOf o n) ((o).now)).T).l).length) (c_805), .func (.func 31) #[] #[.pointer (some ⟨b_789, 0, none⟩)]]) en28 rfl (indexFunc_peer _ _ _ 31 _ (fun x => x.node == p.node) en31 _ ho_807.sl (by omega) (fun x _ w' K' => nev2 x b_789 p w' (hb_792.ext K'))) ?_
              rintro _ w_819 ⟨rfl, K_820⟩
              replace hb_4 := hb_4.ext K_820
              replace hb_31 := hb_31.ext K_820
              replace ho_41 := ho_41.ext K_820
              replace ho_51 := ho_51.ext K_820
              replace hT_749 := hT_749.ext K_820
              replace ho_756 := ho_756.ext K_820
              replace ho_757 := ho_757.ext K_820
              replace hb_792 := hb_792.ext K_820
              replace ho_807 := ho_807.ext K_820
              replace K0 := K0.ext K_820
              refine RL.val (x_assignI rfl) ?_
              refine RL.nil ?_
              obtain ⟨k0, hk0, hkl0, hkp0, _⟩ := findI_some (p := (fun x : Peer => x.node == p.node)) (xs := (peersL ((on T (msgOf o n) ((o).now)).T).l)) rfl hn1
              rw [hk0]
              obtain ⟨x, hx⟩ : ∃ x, (peersL ((on T (msgOf o n) ((o).now)).T).l)[k0]? = some x := ⟨_, List.getElem?_eq_getElem hkl0⟩
              have hxn : x.node = p.node := by have := hkp0 x hx; simpa using this
              refine Run.seq ?_
              by_cases heq : x = p
              · refine Run.drawT [] (m := 21) (by kernel_rfl) rfl ?_
                intro w_821 K_822
                replace hb_4 := hb_4.ext K_822
                replace hb_31 := hb_31.ext K_822
                replace ho_41 := ho_41.ext K_822
                replace ho_51 := ho_51.ext K_822
                replace hT_749 := hT_749.ext K_822
                replace ho_756 := ho_756.ext K_822
                replace ho_757 := ho_757.ext K_822
                replace hb_792 := hb_792.ext K_822
                replace ho_807 := ho_807.ext K_822
                replace K0 := K0.ext K_822
                refine ⟨fun w' => Blk w' b_789 [.int .i64 ((p).node), .int .i64 ((p).inc), .int .i64 ((p).status)] 23 ∧ True, ?_⟩
                refine RT.takeP (v := .int .i64 (((k0 : Nat) : Int))) 0 rfl (by kernel_rfl) (.inr ⟨hb_792, trivial⟩) (fun _ => (x_moveI rfl)) ?_
                refine RT.takeP (v := .bool (false)) 1 rfl (by kernel_rfl) (.inr ⟨hb_792, trivial⟩) (fun _ => (litF (x_ltI rfl rfl) (by simp))) ?_
                refine RT.takeP (v := .bool (false)) 2 rfl (by kernel_rfl) (.inr ⟨hb_792, trivial⟩) (fun _ => (x_moveB rfl)) ?_
                refine RT.gtakeP (v := .pointer (some ⟨b_6, 0, none⟩)) 3 rfl (by kernel_rfl) (.inr ⟨hb_792, trivial⟩) (wantedF1 rfl rfl rfl rfl) (fun hg _ => (x_moveP rfl)) ?_
                refine RT.gtakeP (v := .int .i64 (((k0 : Nat) : Int))) 5 rfl (by kernel_rfl) (.inr ⟨hb_792, trivial⟩) (wantedF1 rfl rfl rfl rfl) (fun hg _ => (x_moveI rfl)) ?_
                refine RT.gtake (v := .agg #[.int .i64 ((p).node), .int .i64 ((p).inc), .int .i64 ((p).status)]) 8 rfl (by kernel_rfl) ⟨hb_792, trivial⟩ (wantedF1 rfl rfl rfl rfl) (fun hg => by rintro _ ⟨hb_792, -⟩; exact (x_lds (cs := #[.int .i64 ((p).node), .int .i64 ((p).inc), .int .i64 ((p).status)]) ty23 rfl rfl (hb_792.cl.drop 0 3))) ?_
                refine RT.gst 4 rfl (by kernel_rfl) (wantedF1 rfl rfl rfl rfl) <| St1.call (vals := [.pointer (some ⟨b_6, 0, none⟩)]) en23 rfl (peers_ _ _ _ ((on T (msgOf o n) ((o).now)).T) _ hT_749.blk hT_749.ok.len) ?_
                rintro _ w_825 ⟨a_823, c_824, rfl, ho_826, hg_827, K_828⟩
                have pr_829 : ¬ own a_823 b_1 := notNew hg_827 hb_4.lt
                have pr_830 : ¬ own a_823 b_28 := notNew hg_827 hb_31.lt
                have pr_831 : ∀ q_, own a_823 q_ → ¬ own a_38 q_ := apartNew hg_827 ho_41.own_lt
                have pr_832 : ∀ q_, own a_823 q_ → ¬ own a_48 q_ := apartNew hg_827 ho_51.own_lt
                have pr_833 : ∀ q_, own a_823 q_ → ¬ tabS b_6 al_746 q_ := apartNew hg_827 hT_749.own_lt
                have pr_834 : ∀ q_, own a_823 q_ → ¬ own a_752 q_ := apartNew hg_827 ho_756.own_lt
                have pr_835 : ∀ q_, own a_823 q_ → ¬ own a_754 q_ := apartNew hg_827 ho_757.own_lt
                have pr_836 : ¬ own a_823 b_789 := notNew hg_827 hb_792.lt
                have pr_837 : ∀ q_, own a_823 q_ → ¬ own a_804 q_ := apartNew hg_827 ho_807.own_lt
                have pg_838 : ∀ q_, own a_823 q_ → w.heap.size ≤ q_ := fun q_ h => Nat.le_trans K0.size (hg_827 q_ h)
                clear hg_827
                replace hb_4 := hb_4.ext K_828
                replace hb_31 := hb_31.ext K_828
                replace ho_41 := ho_41.ext K_828
                replace ho_51 := ho_51.ext K_828
                replace hT_749 := hT_749.ext K_828
                replace ho_756 := ho_756.ext K_828
                replace ho_757 := ho_757.ext K_828
                replace hb_792 := hb_792.ext K_828
                replace ho_807 := ho_807.ext K_828
                replace K0 := K0.ext K_828
                refine ⟨.inr ⟨hb_792, trivial⟩, ?_⟩
                obtain ⟨b_839, o_840, x_843, hx_844, ha_841, hc_842⟩ := ho_826.sl.el (i := k0) (by omega)
                obtain rfl : x = x_843 := Option.some.inj (hx.symm.trans hx_844)
                refine RT.gtakeP (v := .pointer (some ⟨b_839, o_840 + k0 * 3, none⟩)) 6 rfl (by kernel_rfl) (.inr ⟨hb_792, trivial⟩) (wantedF1 rfl rfl rfl rfl) (fun hg _ => (x_idxN Try.underlying32 ty23 rfl rfl ha_841 (by omega))) ?_
                refine RT.gst 7 rfl (by kernel_rfl) (wantedF1 rfl rfl rfl rfl) <| St1.val (x_ldV (v := .agg #[.int .i64 ((x).node), .int .i64 ((x).inc), .int .i64 ((x).status)]) (y := x) ty23 rfl hc_842 rfl) ?_
                refine ⟨.inr ⟨hb_792, trivial⟩, ?_⟩
                refine RT.gtakeP (v := .bool (false)) 9 rfl (by kernel_rfl) (.inr ⟨hb_792, trivial⟩) (wantedF1 rfl rfl rfl rfl) (fun hg _ => (litF (x_neA (by kernel_rfl) rfl rfl (eq_Peer x p)) (by simp [heq]))) ?_
                refine RT.gtakeP (v := .bool (false)) 10 rfl (by kernel_rfl) (.inr ⟨hb_792, trivial⟩) (wantedF1 rfl rfl rfl rfl) (fun hg _ => (x_moveB rfl)) ?_
                refine RT.gtakeP (v := undef) 11 rfl (by kernel_rfl) (.inr ⟨hb_792, trivial⟩) (wantedT0 rfl rfl rfl rfl) (fun hg => by cases hg) ?_
                refine RT.gtakeP (v := undef) 13 rfl (by kernel_rfl) (.inr ⟨hb_792, trivial⟩) (wantedT0 rfl rfl rfl rfl) (fun hg => by cases hg) ?_
                refine RT.gtakeP (v := undef) 16 rfl (by kernel_rfl) (.inr ⟨hb_792, trivial⟩) (wantedT0 rfl rfl rfl rfl) (fun hg => by cases hg) ?_
                refine RT.gT 12 rfl (by kernel_rfl) (wantedT0 rfl rfl rfl rfl) (.inr ⟨hb_792, trivial⟩) ?_
                refine RT.gtakeP (v := undef) 14 rfl (by kernel_rfl) (.inr ⟨hb_792, trivial⟩) (wantedT0 rfl rfl rfl rfl) (fun hg => by cases hg) ?_
                refine RT.gtakeP (v := undef) 15 rfl (by kernel_rfl) (.inr ⟨hb_792, trivial⟩) (wantedT0 rfl rfl rfl rfl) (fun hg => by cases hg) ?_
                refine RT.gT 17 rfl (by kernel_rfl) (wantedT0 rfl rfl rfl rfl) (.inr ⟨hb_792, trivial⟩) ?_
                refine RT.gtakeP (v := undef) 18 rfl (by kernel_rfl) (.inr ⟨hb_792, trivial⟩) (wantedT0 rfl rfl rfl rfl) (fun hg => by cases hg) ?_
                refine RT.gtakeP (v := .bool (false)) 19 rfl (by kernel_rfl) (.inr ⟨hb_792, trivial⟩) (wantedF1 rfl rfl rfl rfl) (fun hg _ => (x_and (b := false) (e := false) rfl rfl rfl)) ?_
                refine RT.takeP (v := .bool (false)) 20 rfl (by kernel_rfl) (.inr ⟨hb_792, trivial⟩) (fun _ => (x_orF rfl rfl rfl)) ?_
                refine RT.done (by kernel_rfl) ?_
                refine Run.condF rfl ?_
                refine Run.skip ?_
                refine Run.inBlock ?_
                refine Run.region ?_
                refine RL.val (litI (c := ((j + 1 : Nat) : Int)) (x_add rfl rfl (by omega) (by omega)) rfl) ?_
                refine RL.val (x_moveI rfl) ?_
                refine RL.nil ?_
                refine ih7 (j + 1) _ _ ?_ (by omega)
                refine ⟨⟨rfl, rfl, rfl, rfl, rfl, rfl, rfl, rfl, rfl, trivial⟩, K0, hb_4, hb_31, ho_41, ho_51, hT_749, ho_756, ho_757, ?_⟩
                · omega
              · refine Run.drawT [] (m := 21) (by kernel_rfl) rfl ?_
                intro w_845 K_846
                replace hb_4 := hb_4.ext K_846
                replace hb_31 := hb_31.ext K_846
                replace ho_41 := ho_41.ext K_846
                replace ho_51 := ho_51.ext K_846
                replace hT_749 := hT_749.ext K_846
                replace ho_756 := ho_756.ext K_846
                replace ho_757 := ho_757.ext K_846
                replace hb_792 := hb_792.ext K_846
                replace ho_807 := ho_807.ext K_846
                replace K0 := K0.ext K_846
                refine ⟨fun w' => Blk w' b_789 [.int .i64 ((p).node), .int .i64 ((p).inc), .int .i64 ((p).status)] 23 ∧ True, ?_⟩
                refine RT.takeP (v := .int .i64 (((k0 : Nat) : Int))) 0 rfl (by kernel_rfl) (.inr ⟨hb_792, trivial⟩) (fun _ => (x_moveI rfl)) ?_
                refine RT.takeP (v := .bool (false)) 1 rfl (by kernel_rfl) (.inr ⟨hb_792, trivial⟩) (fun _ => (litF (x_ltI rfl rfl) (by simp))) ?_
                refine RT.takeP (v := .bool (false)) 2 rfl (by kernel_rfl) (.inr ⟨hb_792, trivial⟩) (fun _ => (x_moveB rfl)) ?_
                refine RT.gtakeP (v := .pointer (some ⟨b_6, 0, none⟩)) 3 rfl (by kernel_rfl) (.inr ⟨hb_792, trivial⟩) (wantedF1 rfl rfl rfl rfl) (fun hg _ => (x_moveP rfl)) ?_
                refine RT.gtakeP (v := .int .i64 (((k0 : Nat) : Int))) 5 rfl (by kernel_rfl) (.inr ⟨hb_792, trivial⟩) (wantedF1 rfl rfl rfl rfl) (fun hg _ => (x_moveI rfl)) ?_
                refine RT.gtake (v := .agg #[.int .i64 ((p).node), .int .i64 ((p).inc), .int .i64 ((p).status)]) 8 rfl (by kernel_rfl) ⟨hb_792, trivial⟩ (wantedF1 rfl rfl rfl rfl) (fun hg => by rintro _ ⟨hb_792, -⟩; exact (x_lds (cs := #[.int .i64 ((p).node), .int .i64 ((p).inc), .int .i64 ((p).status)]) ty23 rfl rfl (hb_792.cl.drop 0 3))) ?_
                refine RT.gst 4 rfl (by kernel_rfl) (wantedF1 rfl rfl rfl rfl) <| St1.call (vals := [.pointer (some ⟨b_6, 0, none⟩)]) en23 rfl (peers_ _ _ _ ((on T (msgOf o n) ((o).now)).T) _ hT_749.blk hT_749.ok.len) ?_
                rintro _ w_849 ⟨a_847, c_848, rfl, ho_850, hg_851, K_852⟩
                have pr_853 : ¬ own a_847 b_1 := notNew hg_851 hb_4.lt
                have pr_854 : ¬ own a_847 b_28 := notNew hg_851 hb_31.lt
                have pr_855 : ∀ q_, own a_847 q_ → ¬ own a_38 q_ := apartNew hg_851 ho_41.own_lt
                have pr_856 : ∀ q_, own a_847 q_ → ¬ own a_48 q_ := apartNew hg_851 ho_51.own_lt
                have pr_857 : ∀ q_, own a_847 q_ → ¬ tabS b_6 al_746 q_ := apartNew hg_851 hT_749.own_lt
                have pr_858 : ∀ q_, own a_847 q_ → ¬ own a_752 q_ := apartNew hg_851 ho_756.own_lt
                have pr_859 : ∀ q_, own a_847 q_ → ¬ own a_754 q_ := apartNew hg_851 ho_757.own_lt
                have pr_860 : ¬ own a_847 b_789 := notNew hg_851 hb_792.lt
                have pr_861 : ∀ q_, own a_847 q_ → ¬ own a_804 q_ := apartNew hg_851 ho_807.own_lt
                have pg_862 : ∀ q_, own a_847 q_ → w.heap.size ≤ q_ := fun q_ h => Nat.le_trans K0.size (hg_851 q_ h)
                clear hg_851
                replace hb_4 := hb_4.ext K_852
                replace hb_31 := hb_31.ext K_852
                replace ho_41 := ho_41.ext K_852
                replace ho_51 := ho_51.ext K_852
                replace hT_749 := hT_749.ext K_852
                replace ho_756 := ho_756.ext K_852
                replace ho_757 := ho_757.ext K_852
                replace hb_792 := hb_792.ext K_852
                replace ho_807 := ho_807.ext K_852
                replace K0 := K0.ext K_852
                refine ⟨.inr ⟨hb_792, trivial⟩, ?_⟩
                obtain ⟨b_863, o_864, x_867, hx_868, ha_865, hc_866⟩ := ho_850.sl.el (i := k0) (by omega)
                obtain rfl : x = x_867 := Option.some.inj (hx.symm.trans hx_868)
                refine RT.gtakeP (v := .pointer (some ⟨b_863, o_864 + k0 * 3, none⟩)) 6 rfl (by kernel_rfl) (.inr ⟨hb_792, trivial⟩) (wantedF1 rfl rfl rfl rfl) (fun hg _ => (x_idxN Try.underlying32 ty23 rfl rfl ha_865 (by omega))) ?_
                refine RT.gst 7 rfl (by kernel_rfl) (wantedF1 rfl rfl rfl rfl) <| St1.val (x_ldV (v := .agg #[.int .i64 ((x).node), .int .i64 ((x).inc), .int .i64 ((x).status)]) (y := x) ty23 rfl hc_866 rfl) ?_
                refine ⟨.inr ⟨hb_792, trivial⟩, ?_⟩
                refine RT.gtakeP (v := .bool (true)) 9 rfl (by kernel_rfl) (.inr ⟨hb_792, trivial⟩) (wantedF1 rfl rfl rfl rfl) (fun hg _ => (litT (x_neA (by kernel_rfl) rfl rfl (eq_Peer x p)) (by simp [heq]))) ?_
                refine RT.gtakeP (v := .bool (true)) 10 rfl (by kernel_rfl) (.inr ⟨hb_792, trivial⟩) (wantedF1 rfl rfl rfl rfl) (fun hg _ => (x_moveB rfl)) ?_
                refine RT.gtakeP (v := .pointer (some ⟨b_6, 0, none⟩)) 11 rfl (by kernel_rfl) (.inr ⟨hb_792, trivial⟩) (wantedT1 rfl rfl rfl rfl) (fun hg _ => (x_moveP rfl)) ?_
                refine RT.gtakeP (v := .int .i64 (((k0 : Nat) : Int))) 13 rfl (by kernel_rfl) (.inr ⟨hb_792, trivial⟩) (wantedT1 rfl rfl rfl rfl) (fun hg _ => (x_moveI rfl)) ?_
                refine RT.gtake (v := .agg #[.int .i64 ((p).node), .int .i64 ((p).inc), .int .i64 ((p).status)]) 16 rfl (by kernel_rfl) ⟨hb_792, trivial⟩ (wantedT1 rfl rfl rfl rfl) (fun hg => by rintro _ ⟨hb_792, -⟩; exact (x_lds (cs := #[.int .i64 ((p).node), .int .i64 ((p).inc), .int .i64 ((p).status)]) ty23 rfl rfl (hb_792.cl.drop 0 3))) ?_
                refine RT.gst 12 rfl (by kernel_rfl) (wantedT1 rfl rfl rfl rfl) <| St1.call (vals := [.pointer (some ⟨b_6, 0, none⟩)]) en23 rfl (peers_ _ _ _ ((on T (msgOf o n) ((o).now)).T) _ hT_749.blk hT_749.ok.len) ?_
                rintro _ w_871 ⟨a_869, c_870, rfl, ho_872, hg_873, K_874⟩
                have pr_875 : ¬ own a_869 b_1 := notNew hg_873 hb_4.lt
                have pr_876 : ¬ own a_869 b_28 := notNew hg_873 hb_31.lt
                have pr_877 : ∀ q_, own a_869 q_ → ¬ own a_38 q_ := apartNew hg_873 ho_41.own_lt
                have pr_878 : ∀ q_, own a_869 q_ → ¬ own a_48 q_ := apartNew hg_873 ho_51.own_lt
                have pr_879 : ∀ q_, own a_869 q_ → ¬ tabS b_6 al_746 q_ := apartNew hg_873 hT_749.own_lt
                have pr_880 : ∀ q_, own a_869 q_ → ¬ own a_752 q_ := apartNew hg_873 ho_756.own_lt
                have pr_881 : ∀ q_, own a_869 q_ → ¬ own a_754 q_ := apartNew hg_873 ho_757.own_lt
                have pr_882 : ¬ own a_869 b_789 := notNew hg_873 hb_792.lt
                have pr_883 : ∀ q_, own a_869 q_ → ¬ own a_804 q_ := apartNew hg_873 ho_807.own_lt
                have pr_884 : ∀ q_, own a_869 q_ → ¬ own a_847 q_ := apartNew hg_873 ho_850.own_lt
                have pg_885 : ∀ q_, own a_869 q_ → w.heap.size ≤ q_ := fun q_ h => Nat.le_trans K0.size (hg_873 q_ h)
                clear hg_873
                replace hb_4 := hb_4.ext K_874
                replace hb_31 := hb_31.ext K_874
                replace ho_41 := ho_41.ext K_874
                replace ho_51 := ho_51.ext K_874
                replace hT_749 := hT_749.ext K_874
                replace ho_756 := ho_756.ext K_874
                replace ho_757 := ho_757.ext K_874
                replace hb_792 := hb_792.ext K_874
                replace ho_807 := ho_807.ext K_874
                replace ho_850 := ho_850.ext K_874
                replace hc_866 := hc_866.ext K_874
                replace K0 := K0.ext K_874
                refine ⟨.inr ⟨hb_792, trivial⟩, ?_⟩
                obtain ⟨b_886, o_887, x_890, hx_891, ha_888, hc_889⟩ := ho_872.sl.el (i := k0) (by omega)
                obtain rfl : x = x_890 := Option.some.inj (hx.symm.trans hx_891)
                refine RT.gtakeP (v := .pointer (some ⟨b_886, o_887 + k0 * 3, none⟩)) 14 rfl (by kernel_rfl) (.inr ⟨hb_792, trivial⟩) (wantedT1 rfl rfl rfl rfl) (fun hg _ => (x_idxN Try.underlying32 ty23 rfl rfl ha_888 (by omega))) ?_
                refine RT.gst 15 rfl (by kernel_rfl) (wantedT1 rfl rfl rfl rfl) <| St1.val (x_ldV (v := .agg #[.int .i64 ((x).node), .int .i64 ((x).inc), .int .i64 ((x).status)]) (y := x) ty23 rfl hc_889 rfl) ?_
                refine ⟨.inr ⟨hb_792, trivial⟩, ?_⟩
                refine RT.gst 17 rfl (by kernel_rfl) (wantedT1 rfl rfl rfl rfl) <| St1.call (vals := [.agg #[.int .i64 ((x).node), .int .i64 ((x).inc), .int .i64 ((x).status)], .agg #[.int .i64 ((p).node), .int .i64 ((p).inc), .int .i64 ((p).status)]]) en12 rfl (greaterR_ x p _) ?_
                rintro _ w_892 ⟨rfl, K_893⟩
                replace hb_4 := hb_4.ext K_893
                replace hb_31 := hb_31.ext K_893
                replace ho_41 := ho_41.ext K_893
                replace ho_51 := ho_51.ext K_893
                replace hT_749 := hT_749.ext K_893
                replace ho_756 := ho_756.ext K_893
                replace ho_757 := ho_757.ext K_893
                replace hb_792 := hb_792.ext K_893
                replace ho_807 := ho_807.ext K_893
                replace ho_850 := ho_850.ext K_893
                replace hc_866 := hc_866.ext K_893
                replace ho_872 := ho_872.ext K_893
                replace hc_889 := hc_889.ext K_893
                replace K0 := K0.ext K_893
                refine ⟨.inr ⟨hb_792, trivial⟩, ?_⟩
                refine RT.gtakeP (v := .bool (false)) 18 rfl (by kernel_rfl) (.inr ⟨hb_792, trivial⟩) (wantedT1 rfl rfl rfl rfl) (fun hg _ => (litF (x_not rfl) (by rcases hn2 x (mem_of_at hx) hxn with h | h <;> simp_all))) ?_
                refine RT.gtakeP (v := .bool (false)) 19 rfl (by kernel_rfl) (.inr ⟨hb_792, trivial⟩) (wantedF1 rfl rfl rfl rfl) (fun hg _ => (x_andT rfl rfl rfl)) ?_
                refine RT.takeP (v := .bool (false)) 20 rfl (by kernel_rfl) (.inr ⟨hb_792, trivial⟩) (fun _ => (x_orF rfl rfl rfl)) ?_
                refine RT.done (by kernel_rfl) ?_
                refine Run.condF rfl ?_
                refine Run.skip ?_
                refine Run.inBlock ?_
                refine Run.region ?_
                refine RL.val (litI (c := ((j + 1 : Nat) : Int)) (x_add rfl rfl (by omega) (by omega)) rfl) ?_
                refine RL.val (x_moveI rfl) ?_
                refine RL.nil ?_
                refine ih7 (j + 1) _ _ ?_ (by omega)
                refine ⟨⟨rfl, rfl, rfl, rfl, rfl, rfl, rfl, rfl, rfl, trivial⟩, K0, hb_4, hb_31, ho_41, ho_51, hT_749, ho_756, ho_757, ?_⟩
                · omega
            · try simp only [br] at hc118
              refine Run.exit rfl ?_
              refine Run.seq ?_
              have hse2 := never_self hok1 hN1 hn
              refine Run.region ?_
              refine RL.val (x_moveP rfl) ?_
              refine RL.val (x_ld (v := .int .i64 (n)) ty3 rfl rfl (hb_4.cl.field (i := 0) rfl)) ?_
              refine RL.st rfl <| St1.call (vals := [.pointer (some ⟨b_6, 0, none⟩), .int .i64 (n)]) en17 rfl (status_ _ _ _ ((on T (msgOf o n) ((o).now)).T) n _ hT_749.blk hT_749.ok.len) ?_
              rintro _ w_894 ⟨rfl, K_895⟩
              replace hb_4 := hb_4.ext K_895
              replace hb_31 := hb_31.ext K_895
              replace ho_41 := ho_41.ext K_895
              replace ho_51 := ho_51.ext K_895
              replace hT_749 := hT_749.ext K_895
              replace ho_756 := ho_756.ext K_895
              replace ho_757 := ho_757.ext K_895
              replace K0 := K0.ext K_895
              refine RL.val (litF (x_neI rfl rfl) (by rw [hse2.2]; rfl)) ?_
              refine RL.nil ?_
              refine Run.condF rfl ?_
              refine Run.skip ?_
              refine Run.inBlock ?_
              refine Run.region ?_
              refine RL.val (litI (c := ((i + 1 : Nat) : Int)) (x_add rfl rfl (by omega) (by omega)) rfl) ?_
              refine RL.val (x_moveI rfl) ?_
              refine RL.nil ?_
              refine ih1 (i + 1) _ _ ?_ (by omega)
              refine ⟨_, _, _, ⟨rfl, rfl, rfl, rfl, rfl, trivial⟩, K0, hb_4, hT_749, pr_775, pg_779, ?_, ?_, ?_⟩
              · omega
              · exact hN1
              · omega
  · try simp only [br] at hc36
    refine Run.exit rfl ?_
    refine Run.seq ?_
    refine Run.region ?_
    refine RL.val (x_assignB rfl) ?_
    refine RL.nil ?_
    refine Run.ret1 (v := .bool (true)) Try.func9 rfl rfl ?_
    exact ⟨_, rfl, rfl, K0⟩

set_option maxRecDepth 100000 in
set_option maxHeartbeats 4000000 in
theorem law_never0 (n : Int) (as0 : Option Addr) (script : List DoC) (cs0 : Nat) (w : World) (h0 : SlOf w as0 script) (hl0 : script.length ≤ 1048576) (hq : ∀ o ∈ script, DoOk w o) (hn : n < 0 ∨ 8 ≤ n) :
    Calls Try.prog 9 #[.int .i64 (n), .slice (as0) (script.length) (cs0)] w (Ret (fun v w' => v = .bool true ∧ Ext w w')) := by
  refine calls_run (n := 152) Try.func9 rfl rfl rfl ?_
  refine Run.seq ?_
  refine Run.region ?_
  refine RL.st rfl <| St1.box (v := .int .i64 (n)) rfl ?_
  intro b_1 w_2 hl_5 hb_4 K_3
  replace hb_4 : Blk w_2 b_1 [.int .i64 (n)] 3 := hb_4
  have : w.heap.size ≤ b_1 := hl_5
  clear hl_5
  have K0 := (K_3 : Ext w _)
  refine RL.val (x_assignB rfl) ?_
  refine RL.nil ?_
  refine Run.seq ?_
  refine Run.region ?_
  refine RL.val (x_ld (v := .int .i64 (n)) ty3 rfl rfl (hb_4.cl.field (i := 0) rfl)) ?_
  refine RL.st rfl <| St1.call (vals := [.int .i64 (n)]) en14 rfl (new_ n _) ?_
  rintro _ w_6 (⟨_, rfl, K_7⟩ | ⟨_, hbad, _⟩)
  rotate_left
  · exact absurd hbad (by omega)
  replace hb_4 := hb_4.ext K_7
  replace K0 := K0.ext K_7
  refine RL.val (x_moveT rfl) ?_
  refine RL.val (x_extract rfl rfl) ?_
  refine RL.val (x_extract rfl rfl) ?_
  refine RL.val (x_assignP rfl) ?_
  refine RL.val (x_assignI rfl) ?_
  refine RL.nil ?_
  refine Run.seq ?_
  refine Run.seq ?_
  refine Run.region ?_
  refine RL.val (x_moveP rfl) ?_
  refine RL.val (litT (x_ptrNil Try.underlying28 rfl rfl) rfl) ?_
  refine RL.val (x_moveB rfl) ?_
  refine RL.guardF (wantedF0 rfl rfl rfl rfl) ?_
  refine RL.guardF (wantedF0 rfl rfl rfl rfl) ?_
  refine RL.val (x_or (b := true) (e := false) rfl rfl rfl) ?_
  refine RL.nil ?_
  refine Run.condT rfl ?_
  refine Run.seq ?_
  refine Run.region ?_
  refine RL.val (x_moveI rfl) ?_
  refine RL.val (litT (x_neI rfl rfl) (by decide)) ?_
  refine RL.val (x_moveB rfl) ?_
  refine RL.gst (wantedT1 rfl rfl rfl rfl) <| St1.call (vals := []) en13 rfl (awake_ _) ?_
  rintro _ w_8 ⟨rfl, K_9⟩
  replace hb_4 := hb_4.ext K_9
  replace K0 := K0.ext K_9
  refine RL.val (x_andT rfl rfl rfl) ?_
  refine RL.val (x_assignB rfl) ?_
  refine RL.nil ?_
  refine Run.ret1 (v := .bool (true)) Try.func9 rfl rfl ?_
  exact ⟨_, rfl, rfl, K0⟩

theorem law_never_all (n : Int) (as0 : Option Addr) (script : List DoC) (cs0 : Nat) (w : World) (h0 : SlOf w as0 script) (hl0 : script.length ≤ 1048576) (hq : ∀ o ∈ script, DoOk w o) :
    Calls Try.prog 9 #[.int .i64 n, .slice as0 script.length cs0] w (Ret fun v w' => v = .bool true ∧ Ext w w') := by
  by_cases hn : 0 ≤ n ∧ n < 8
  · exact law_never n as0 script cs0 w h0 hl0 hq hn
  · exact law_never0 n as0 script cs0 w h0 hl0 hq (by omega)

end Go.Proofs.Ytagfdmdajmkddaa
