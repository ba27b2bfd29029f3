/-
  The reference's table.
-/
import Derived.Test.YtagfdmdajmkddaaRows
import Derived.Test.YtagfdmdajmkddaaLl
namespace Go.Proofs.Ytagfdmdajmkddaa
attribute [local irreducible] St1 RL RA RT RT1 Run

open Sa
/-! ### the reference's list: those of which something is known -/
def knownL (l : List KnownM) : List KnownM := l.filter (fun k => k.peer.status != 0)
def posL (l : List KnownM) (n : Nat) : Nat := (knownL (l.take n)).length
theorem knownL_append (a b : List KnownM) : knownL (a ++ b) = knownL a ++ knownL b := List.filter_append ..
theorem knownL_split {l : List KnownM} {n : Nat} {k : KnownM} (h : l[n]? = some k) : knownL l = knownL (l.take n) ++ (knownL [k] ++ knownL (l.drop (n + 1))) := by
  obtain ⟨hn, rfl⟩ := List.getElem?_eq_some_iff.1 h
  rw [← knownL_append, ← knownL_append, List.singleton_append, List.getElem_cons_drop, List.take_append_drop]
theorem knownL_len (l : List KnownM) : (knownL l).length ≤ l.length := List.length_filter_le _ _
theorem known_yes {k : KnownM} (h : k.peer.status ≠ 0) : knownL [k] = [k] := by simp [knownL, h]
theorem known_no {k : KnownM} (h : k.peer.status = 0) : knownL [k] = [] := by simp [knownL, h]
theorem mem_known {l : List KnownM} {x : KnownM} (h : x ∈ knownL l) : ∃ m : Nat, l[m]? = some x ∧ x.peer.status ≠ 0 := by
  simp only [knownL, List.mem_filter] at h
  obtain ⟨m, hm, rfl⟩ := List.getElem_of_mem h.1
  exact ⟨m, by simp, by simpa using h.2⟩
theorem known_lo {T : Tab} (ok : TabOk T) (n : Nat) : ∀ x ∈ knownL (T.l.take n), x.peer.node < (n : Int) ∧ 0 ≤ x.peer.node := by
  intro x hx
  obtain ⟨m, hm, hs⟩ := mem_known hx
  have hmn : m < n := by
    have := (List.getElem?_eq_some_iff.1 hm).1
    rw [List.length_take] at this
    omega
  rw [List.getElem?_take] at hm
  rw [if_pos hmn] at hm
  have := (ok.known m x hm).2.2 hs
  omega
theorem known_hi {T : Tab} (ok : TabOk T) (n : Nat) : ∀ x ∈ knownL (T.l.drop (n + 1)), (n : Int) < x.peer.node := by
  intro x hx
  obtain ⟨m, hm, hs⟩ := mem_known hx
  rw [List.getElem?_drop] at hm
  have := (ok.known _ x hm).2.2 hs
  omega
theorem known_get {T : Tab} {n : Nat} {k : KnownM} (hk : T.l[n]? = some k) (hs : k.peer.status ≠ 0) : (knownL T.l)[posL T.l n]? = some k := by
  rw [knownL_split hk, known_yes hs, posL, List.getElem?_append_right (Nat.le_refl _), Nat.sub_self]
  rfl
theorem known_set {l : List KnownM} {n : Nat} {k x : KnownM} (hk : l[n]? = some k) (hs : k.peer.status ≠ 0) (hx : x.peer.status ≠ 0) : (knownL l).set (posL l n) x = knownL (l.set n x) := by
  have hn : n < l.length := (List.getElem?_eq_some_iff.1 hk).1
  have h2 : (l.set n x)[n]? = some x := get_set_self hk
  rw [knownL_split hk, knownL_split h2, known_yes hs, known_yes hx, posL, List.set_append_right _ _ (Nat.le_refl _), Nat.sub_self, List.take_set_of_le (Nat.le_refl _), List.drop_set, if_pos (by omega)]
  rfl
theorem find_known {T : Tab} (ok : TabOk T) {n : Nat} {k : KnownM} (hk : T.l[n]? = some k) (hs : k.peer.status ≠ 0) : findI (fun x : KnownM => x.peer.node == (n : Int)) (knownL T.l) = (posL T.l n : Int) := by
  refine findI_at (known_get hk hs) (by have := (ok.known n k hk).2.2 hs; simpa using this) ?_
  intro j x hj hx
  rw [knownL_split hk, List.getElem?_append_left hj] at hx
  have := known_lo ok n x (List.mem_of_getElem? hx)
  simp only [beq_eq_false_iff_ne]
  omega
theorem find_unknown {T : Tab} (ok : TabOk T) {n : Nat} {k : KnownM} (hk : T.l[n]? = some k) (hs : k.peer.status = 0) : findI (fun x : KnownM => x.peer.node == (n : Int)) (knownL T.l) = -1 := by
  refine findI_no (i := (knownL T.l).length) ?_ (Nat.le_refl _)
  intro j x _ hx
  have hm := List.mem_of_getElem? hx
  obtain ⟨m, h1, h2⟩ := mem_known hm
  have := (ok.known m x h1).2.2 h2
  simp only [beq_eq_false_iff_ne]
  intro e
  have : m = n := by omega
  subst this
  rw [hk] at h1; cases h1
  exact h2 hs
theorem find_out {T : Tab} (ok : TabOk T) {n : Int} (h : n < 0 ∨ 8 ≤ n) : findI (fun x : KnownM => x.peer.node == n) (knownL T.l) = -1 := by
  refine findI_no (i := (knownL T.l).length) ?_ (Nat.le_refl _)
  intro j x _ hx
  obtain ⟨m, h1, h2⟩ := mem_known (List.mem_of_getElem? hx)
  have h3 := (ok.known m x h1).2.2 h2
  have h4 : m < T.l.length := (List.getElem?_eq_some_iff.1 h1).1
  have h5 := ok.len
  simp only [beq_eq_false_iff_ne]
  omega
theorem statusL_find {T : Tab} (ok : TabOk T) (n : Int) : (findI (fun x : KnownM => x.peer.node == n) (knownL T.l) < 0 ∧ statusL T.l n = 0) ∨ (∃ k, 0 ≤ n ∧ n < 8 ∧ T.l[n.toNat]? = some k ∧ k.peer.status ≠ 0 ∧ findI (fun x : KnownM => x.peer.node == n) (knownL T.l) = (posL T.l n.toNat : Int) ∧ statusL T.l n = k.peer.status) := by
  by_cases h : n < 0 ∨ 8 ≤ n
  · exact .inl ⟨by rw [find_out ok h]; omega, statusL_no h⟩
  · obtain ⟨k, hk⟩ : ∃ k, T.l[n.toNat]? = some k := ⟨_, List.getElem?_eq_getElem (by have := ok.len; omega)⟩
    have hn : ((n.toNat : Nat) : Int) = n := by omega
    by_cases hs : k.peer.status = 0
    · have := find_unknown ok hk hs
      rw [hn] at this
      exact .inl ⟨by rw [this]; omega, by rw [statusL_at (by omega) hk]; exact hs⟩
    · have := find_known ok hk hs
      rw [hn] at this
      exact .inr ⟨k, by omega, by omega, hk, hs, this, statusL_at (by omega) hk⟩
/-- learn, as the reference goes about it -/
def lr1 (x : KnownM) (s : List KnownM × Bool) (k : KnownM) : List KnownM × Bool :=
  let s1 := if s.2 = false ∧ x.peer.node ≤ k.peer.node then (s.1 ++ [x], true) else s
  if k.peer.node = x.peer.node then s1 else (s1.1 ++ [k], s1.2)
theorem lr1_a {x k : KnownM} {s : List KnownM × Bool} (h : s.2 = false ∧ x.peer.node ≤ k.peer.node) (hn : k.peer.node = x.peer.node) : lr1 x s k = (s.1 ++ [x], true) := by unfold lr1; simp only; rw [if_pos h, if_pos hn]
theorem lr1_b {x k : KnownM} {s : List KnownM × Bool} (h : s.2 = false ∧ x.peer.node ≤ k.peer.node) (hn : ¬ k.peer.node = x.peer.node) : lr1 x s k = (s.1 ++ [x] ++ [k], true) := by unfold lr1; simp only; rw [if_pos h, if_neg hn]
theorem lr1_c {x k : KnownM} {s : List KnownM × Bool} (h : ¬ (s.2 = false ∧ x.peer.node ≤ k.peer.node)) (hn : k.peer.node = x.peer.node) : lr1 x s k = s := by unfold lr1; simp only; rw [if_neg h, if_pos hn]
theorem lr1_d {x k : KnownM} {s : List KnownM × Bool} (h : ¬ (s.2 = false ∧ x.peer.node ≤ k.peer.node)) (hn : ¬ k.peer.node = x.peer.node) : lr1 x s k = (s.1 ++ [k], s.2) := by unfold lr1; simp only; rw [if_neg h, if_neg hn]
theorem lr_lo {x : KnownM} : ∀ (l : List KnownM) (acc : List KnownM), (∀ k ∈ l, k.peer.node < x.peer.node) → l.foldl (lr1 x) (acc, false) = (acc ++ l, false)
  | [], acc, _ => by simp
  | k :: l, acc, h => by
    have hk := h k (by simp)
    rw [List.foldl_cons]
    have e : lr1 x (acc, false) k = (acc ++ [k], false) := lr1_d (fun h => by have := h.2; omega) (by omega)
    rw [e, lr_lo l _ (fun q hq => h q (by simp [hq]))]
    simp
theorem lr_hi {x : KnownM} : ∀ (l : List KnownM) (acc : List KnownM), (∀ k ∈ l, x.peer.node < k.peer.node) → l.foldl (lr1 x) (acc, true) = (acc ++ l, true)
  | [], acc, _ => by simp
  | k :: l, acc, h => by
    have hk := h k (by simp)
    rw [List.foldl_cons]
    have e : lr1 x (acc, true) k = (acc ++ [k], true) := lr1_d (fun h => by cases h.1) (by omega)
    rw [e, lr_hi l _ (fun q hq => h q (by simp [hq]))]
    simp
theorem lr_new {x : KnownM} (l : List KnownM) (acc : List KnownM) (h : ∀ k ∈ l, x.peer.node < k.peer.node) : (let s := l.foldl (lr1 x) (acc, false); if s.2 = false then s.1 ++ [x] else s.1) = acc ++ [x] ++ l := by
  cases l with
  | nil => simp
  | cons k l =>
    have hk := h k (by simp)
    have e : lr1 x (acc, false) k = (acc ++ [x] ++ [k], true) := lr1_b ⟨rfl, by omega⟩ (by omega)
    simp only [List.foldl_cons, e]
    rw [lr_hi l _ (fun q hq => h q (by simp [hq]))]
    simp
theorem lr_all {T : Tab} (ok : TabOk T) {p : Peer} (hp : 0 ≤ p.node ∧ p.node < 8) (hs : p.status ≠ 0) :
    (let s := (knownL T.l).foldl (lr1 ⟨p, T.now⟩) ([], false); if s.2 = false then s.1 ++ [⟨p, T.now⟩] else s.1) = knownL (learnT T p).l := by
  obtain ⟨k, hk⟩ : ∃ k, T.l[p.node.toNat]? = some k := ⟨_, List.getElem?_eq_getElem (by have := ok.len; omega)⟩
  have h2 : (learnT T p).l[p.node.toNat]? = some ⟨p, T.now⟩ := get_set_self hk
  have hlo : ∀ q ∈ knownL (T.l.take p.node.toNat), q.peer.node < (⟨p, T.now⟩ : KnownM).peer.node := fun q hq => by have := known_lo ok _ q hq; simp only; omega
  have hhi : ∀ q ∈ knownL (T.l.drop (p.node.toNat + 1)), (⟨p, T.now⟩ : KnownM).peer.node < q.peer.node := fun q hq => by have := known_hi ok _ q hq; simp only; omega
  have e1 : (learnT T p).l.take p.node.toNat = T.l.take p.node.toNat := by simp only [learnT]; rw [List.take_set_of_le (Nat.le_refl _)]
  have e2 : (learnT T p).l.drop (p.node.toNat + 1) = T.l.drop (p.node.toNat + 1) := by simp only [learnT]; rw [List.drop_set, if_pos (by omega)]
  rw [knownL_split hk, knownL_split h2, e1, e2, known_yes (show (⟨p, T.now⟩ : KnownM).peer.status ≠ 0 from hs)]
  simp only [List.foldl_append]
  rw [lr_lo _ _ hlo]
  by_cases hk0 : k.peer.status = 0
  · rw [known_no hk0]
    simp only [List.foldl_nil]
    exact (lr_new (x := ⟨p, T.now⟩) _ ([] ++ knownL (T.l.take p.node.toNat)) hhi).trans (by simp)
  · have hkn := (ok.known _ k hk).2.2 hk0
    rw [known_yes hk0]
    have e : lr1 ⟨p, T.now⟩ ([] ++ knownL (T.l.take p.node.toNat), false) k = ([] ++ knownL (T.l.take p.node.toNat) ++ [⟨p, T.now⟩], true) := lr1_a ⟨rfl, by simp only; omega⟩ (by simp only; omega)
    simp only [List.foldl_cons, List.foldl_nil, e]
    rw [lr_hi _ _ hhi]
    simp
theorem lr_len (x : KnownM) (l : List KnownM) : ∀ i, i ≤ l.length → (tf (lr1 x) ([], false) l i).1.length ≤ 2 * i := by
  refine tf_ind (fun i (s : List KnownM × Bool) => s.1.length ≤ 2 * i) (by simp) ?_
  intro i k s _ h
  by_cases h1 : s.2 = false ∧ x.peer.node ≤ k.peer.node
  · by_cases h2 : k.peer.node = x.peer.node
    · rw [lr1_a h1 h2]; simp only [List.length_append, List.length_singleton]; omega
    · rw [lr1_b h1 h2]; simp only [List.length_append, List.length_singleton]; omega
  · by_cases h2 : k.peer.node = x.peer.node
    · rw [lr1_c h1 h2]; omega
    · rw [lr1_d h1 h2]; simp only [List.length_append, List.length_singleton]; omega
/-! ### the reference's table in memory -/
structure RTabAt (w : World) (b : Nat) (aL : Option Addr) (cL : Nat) (aP : Option Addr) (cP : Nat) (T : Tab) : Prop where
  blk : Blk w b [.int .i64 T.self, .int .i64 T.now, .slice aL (knownL T.l).length cL, .slice aP T.pings.length cP, .int .i64 T.req, .bool T.begun, .int .i64 T.last, .int .i64 T.target] 94
  ownL : OwnSl w 90 aL cL (knownL T.l)
  ownP : OwnSl w 98 aP cP T.pings
  apL : ¬ Go.Proofs.Ytagfdmdajmkddaa.own aL b
  apP : ¬ Go.Proofs.Ytagfdmdajmkddaa.own aP b
  apLP : ∀ x, Go.Proofs.Ytagfdmdajmkddaa.own aL x → ¬ Go.Proofs.Ytagfdmdajmkddaa.own aP x
  ok : TabOk T
  nev : Nev T.self T
def rtabS (b : Nat) (aL aP : Option Addr) : Nat → Prop := fun x => x = b ∨ own aL x ∨ own aP x
theorem RTabAt.keepO {S : Nat → Prop} {w w' : World} {b : Nat} {aL : Option Addr} {cL : Nat} {aP : Option Addr} {cP : Nat} {T : Tab} (h : RTabAt w b aL cL aP cP T) (k : Keeps S w w') (hn : ∀ x, rtabS b aL aP x → ¬ S x) : RTabAt w' b aL cL aP cP T :=
  ⟨h.blk.keep k (hn _ (.inl rfl)), h.ownL.keepO k (fun _ hx => hn _ (.inr (.inl hx))), h.ownP.keepO k (fun _ hx => hn _ (.inr (.inr hx))), h.apL, h.apP, h.apLP, h.ok, h.nev⟩
theorem RTabAt.ext {w w' : World} {b : Nat} {aL : Option Addr} {cL : Nat} {aP : Option Addr} {cP : Nat} {T : Tab} (h : RTabAt w b aL cL aP cP T) (k : Ext w w') : RTabAt w' b aL cL aP cP T := h.keepO k fun _ _ => id
theorem RTabAt.own_lt {w : World} {b : Nat} {aL : Option Addr} {cL : Nat} {aP : Option Addr} {cP : Nat} {T : Tab} (h : RTabAt w b aL cL aP cP T) : ∀ x, rtabS b aL aP x → x < w.heap.size := by
  rintro x (rfl | hx | hx)
  · exact h.blk.lt
  · exact h.ownL.own_lt x hx
  · exact h.ownP.own_lt x hx
theorem rtabMoved' {w : World} {b : Nat} {aL aP aL' aP' : Option Addr} (h1 : ∀ x, own aL' x → x < w.heap.size → rtabS b aL aP x) (h2 : ∀ x, own aP' x → x < w.heap.size → rtabS b aL aP x) : MovedS w (rtabS b aL aP) (rtabS b aL' aP') := by
  rintro x (rfl | hx | hx)
  · exact .inl (.inl rfl)
  · by_cases hl : x < w.heap.size
    · exact .inl (h1 x hx hl)
    · exact .inr (by omega)
  · by_cases hl : x < w.heap.size
    · exact .inl (h2 x hx hl)
    · exact .inr (by omega)
theorem known_new {n : Int} (h : 0 ≤ n ∧ n < 8) : knownL (newT n).l = [⟨⟨n, 0, 1⟩, 0⟩] := by
  have hk : (List.replicate 8 zk)[n.toNat]? = some zk := rep_get (by omega)
  have h2 : (newT n).l[n.toNat]? = some ⟨⟨n, 0, 1⟩, 0⟩ := get_set_self hk
  have e1 : (newT n).l.take n.toNat = (List.replicate 8 zk).take n.toNat := by simp only [newT]; rw [List.take_set_of_le (Nat.le_refl _)]
  have e2 : (newT n).l.drop (n.toNat + 1) = (List.replicate 8 zk).drop (n.toNat + 1) := by simp only [newT]; rw [List.drop_set, if_pos (by omega)]
  have hz : ∀ l : List KnownM, (∀ x ∈ l, x = zk) → knownL l = [] := by
    intro l hl
    unfold knownL
    rw [List.filter_eq_nil_iff]
    intro x hx
    rw [hl x hx]
    decide
  rw [knownL_split h2, e1, e2, hz _ (fun x hx => List.eq_of_mem_replicate (List.mem_of_mem_take hx)), hz _ (fun x hx => List.eq_of_mem_replicate (List.mem_of_mem_drop hx)), known_yes (by simp)]
  rfl




end Go.Proofs.Ytagfdmdajmkddaa
