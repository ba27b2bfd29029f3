/-
  Layer 2's walks, third part.
-/
import Derived.Test.YtnphndfbgdkgbaaGreatDoorRows
import Derived.Test.YtnphndfbgdkgbaaGreatDoorDc
namespace Go.Proofs.YtnphndfbgdkgbaaGreatDoor
attribute [local irreducible] St1 RL RA RT RT1 Run

structure TearC where
  name : ByteArray
  keep : Int
  junk : SH
instance : Enc TearC := Enc.struct (fun t => [.string t.name, .int .i64 t.keep, .slice t.junk.a t.junk.len t.junk.cap]) 3 (fun _ => rfl) (fun _ v hv => by simp at hv; rcases hv with rfl | rfl | rfl <;> rfl) (by decide)
/-- slices, each with its bytes -/
structure PartsAt (w : World) (ss : List SH) (bss : List (List UInt8)) : Prop where
  len : ss.length = bss.length
  all : ∀ (i : Nat) (s : SH) (bs : List UInt8), ss[i]? = some s → bss[i]? = some bs → s.len = bs.length ∧ SlOf w s.a bs
theorem PartsAt.ext {w w' : World} {ss : List SH} {bss : List (List UInt8)} (h : PartsAt w ss bss) (k : Ext w w') : PartsAt w' ss bss :=
  ⟨h.len, fun i s bs h1 h2 => ⟨(h.all i s bs h1 h2).1, (h.all i s bs h1 h2).2.ext k⟩⟩
theorem PartsAt.two {w : World} {s t : SH} {a b : List UInt8} (h1 : s.len = a.length) (h2 : SlOf w s.a a) (h3 : t.len = b.length) (h4 : SlOf w t.a b) : PartsAt w [s, t] [a, b] :=
  ⟨rfl, fun i x bs hx hb => by
    match i with
    | 0 => simp at hx hb; subst hx; subst hb; exact ⟨h1, h2⟩
    | 1 => simp at hx hb; subst hx; subst hb; exact ⟨h3, h4⟩
    | i + 2 => simp at hx⟩
/-- tears, as they are handed in, and plain -/
structure TearsAt (w : World) (ts : List TearC) (pts : List PTear) : Prop where
  len : ts.length = pts.length
  all : ∀ (i : Nat) (t : TearC) (p : PTear), ts[i]? = some t → pts[i]? = some p → t.name = p.name ∧ t.keep = p.keep ∧ t.junk.len = p.junk.length ∧ SlOf w t.junk.a p.junk
  size : ∀ p ∈ pts, p.name.size ≤ 4294967295 ∧ p.junk.length ≤ 4294967295 ∧ -9223372036854775808 ≤ p.keep ∧ p.keep ≤ 9223372036854775807
theorem TearsAt.ext {w w' : World} {ts : List TearC} {pts : List PTear} (h : TearsAt w ts pts) (k : Ext w w') : TearsAt w' ts pts :=
  ⟨h.len, fun i t p h1 h2 => have h3 := h.all i t p h1 h2; ⟨h3.1, h3.2.1, h3.2.2.1, h3.2.2.2.ext k⟩, h.size⟩
/-! ### what tears leave, by names -/
structure LeftS where
  name : ByteArray
  a : Option Addr
  cap : Nat
  bytes : List UInt8
def lent (x : LeftS) : ByteArray × Value := (x.name, .slice x.a x.bytes.length x.cap)
def lents (l : List LeftS) : List (ByteArray × Value) := l.map lent
def LeftS.p (x : LeftS) : ByteArray × List UInt8 := (x.name, x.bytes)
def leftS (l : List LeftS) : Nat → Prop := fun q => ∃ x ∈ l, own x.a q
structure LeftAt (w : World) (l : List LeftS) : Prop where
  all : ∀ x ∈ l, OwnSl w 5 x.a x.cap x.bytes
  apart : l.Pairwise (fun x y => ∀ q, own x.a q → ¬ own y.a q)
section
variable {w w' : World} {S : Nat → Prop} {x : LeftS} {l l1 l2 : List LeftS} {pl : List PF} {pts : List PTear}
theorem LeftAt.own_lt (h : LeftAt w l) : ∀ q, leftS l q → q < w.heap.size := fun q ⟨x, hx, hq⟩ => (h.all x hx).own_lt q hq
theorem LeftAt.keepO (h : LeftAt w l) (k : Keeps S w w') (hn : ∀ q, leftS l q → ¬ S q) : LeftAt w' l := ⟨fun x hx => (h.all x hx).keepO k (fun q hq => hn q ⟨x, hx, hq⟩), h.apart⟩
theorem LeftAt.ext (h : LeftAt w l) (k : Ext w w') : LeftAt w' l := h.keepO k fun _ _ => id
theorem LeftAt.nil (w : World) : LeftAt w [] := ⟨fun _ h => absurd h (by simp), List.Pairwise.nil⟩
theorem LeftAt.perm (h : LeftAt w l) {l' : List LeftS} (p : l.Perm l') : LeftAt w l' :=
  ⟨fun f hf => h.all f (p.mem_iff.2 hf), (p.pairwise_iff (fun {a b} hab q h1 h2 => hab q h2 h1)).1 h.apart⟩
theorem LeftAt.snoc (h : LeftAt w l) (hx : OwnSl w 5 x.a x.cap x.bytes) (hn : ∀ q, leftS l q → ¬ own x.a q) : LeftAt w (l ++ [x]) := by
  refine LeftAt.perm (l := x :: l) ⟨fun y hy => ?_, List.pairwise_cons.2 ⟨fun y hy q h1 h2 => hn q ⟨y, hy, h2⟩ h1, h.apart⟩⟩ (List.perm_append_singleton _ _).symm
  rcases List.mem_cons.1 hy with rfl | hy
  · exact hx
  · exact h.all y hy
theorem LeftAt.openE (h : LeftAt w l) (e : l = l1 ++ x :: l2) : OwnSl w 5 x.a x.cap x.bytes ∧ LeftAt w (l1 ++ l2) ∧ ∀ q, leftS (l1 ++ l2) q → ¬ own x.a q := by
  have h' := h.perm (e ▸ List.perm_middle : l.Perm (x :: (l1 ++ l2)))
  obtain ⟨h1, h2⟩ := List.pairwise_cons.1 h'.apart
  exact ⟨h'.all x (by simp), ⟨fun y hy => h'.all y (List.mem_cons_of_mem _ hy), h2⟩, fun q ⟨y, hy, hq⟩ hx => h1 y hy q hx hq⟩
theorem left_case : ∀ q, leftS (l ++ [x]) q → own x.a q ∨ leftS l q := fun q ⟨y, hy, hq⟩ => by
  rcases List.mem_append.1 hy with hy | hy
  · exact .inr ⟨y, hy, hq⟩
  · simp only [List.mem_singleton] at hy; subst hy; exact .inl hq
theorem left_caseN {n : ByteArray} {a : Option Addr} {c : Nat} {b : List UInt8} : ∀ q, leftS (l ++ [⟨n, a, c, b⟩]) q → own a q ∨ leftS l q := left_case
theorem left_subO (e : l = l1 ++ x :: l2) : ∀ q, own x.a q → leftS l q := fun q h => ⟨x, by subst e; simp, h⟩
theorem left_subR (e : l = l1 ++ x :: l2) : ∀ q, leftS (l1 ++ l2) q → leftS l q := fun q ⟨y, hy, hq⟩ => ⟨y, by subst e; rcases List.mem_append.1 hy with h | h <;> simp [h], hq⟩
theorem lents_keys (l : List LeftS) : (lents l).map (·.1) = l.map (·.name) := by simp [lents, lent]
theorem lents_no {n : ByteArray} (h : ∀ x ∈ l, x.name ≠ n) : mget (lents l) n = none := mget_none fun p hp => by obtain ⟨f, hf, rfl⟩ := List.mem_map.1 hp; exact h f hf
theorem lents_in (hn : (l.map (·.name)).Nodup) (hx : x ∈ l) {n : ByteArray} (e : x.name = n) : mget (lents l) n = some (.slice x.a x.bytes.length x.cap) := by
  subst e
  obtain ⟨l1, l2, rfl⟩ := List.append_of_mem hx
  have e2 : lents (l1 ++ x :: l2) = lents l1 ++ (x.name, .slice x.a x.bytes.length x.cap) :: lents l2 := by simp [lents, lent]
  rw [e2]
  exact mget_mid (by rw [← e2, lents_keys]; exact hn)
theorem lents_put {n : ByteArray} (h : ∀ x ∈ l, x.name ≠ n) (a : Option Addr) (c : Nat) (b : List UInt8) : mput (lents l) n (.slice a b.length c) = lents (l ++ [⟨n, a, c, b⟩]) := by
  rw [mput, mfind_no (fun p hp => by obtain ⟨f, hf, rfl⟩ := List.mem_map.1 hp; exact h f hf)]
  simp [lents, lent]
/-! ### the tears, one by one -/
def tornP (pl : List PF) (t : PTear) : ByteArray × List UInt8 := (t.name, match lookL pl t.name with | some f => tornB f t | none => [])
def tornL (pl : List PF) (ts : List PTear) : List (ByteArray × List UInt8) := ts.map (tornP pl)
def seenL (ts : List PTear) (i : Nat) : List ByteArray := ((ts.take i).map (·.name)).reverse
theorem drop_cons {α : Type} {l : List α} {i : Nat} {x : α} (h : l[i]? = some x) : l.drop i = x :: l.drop (i + 1) := by
  obtain ⟨hi, rfl⟩ := List.getElem?_eq_some_iff.1 h; exact List.drop_eq_getElem_cons hi
theorem take_snoc {α : Type} {l : List α} {i : Nat} {x : α} (h : l[i]? = some x) : l.take (i + 1) = l.take i ++ [x] := by
  obtain ⟨hi, rfl⟩ := List.getElem?_eq_some_iff.1 h; exact List.take_succ_eq_append_getElem hi
theorem seen_succ {i : Nat} {t : PTear} (h : pts[i]? = some t) : seenL pts (i + 1) = t.name :: seenL pts i := by rw [seenL, take_snoc h, seenL]; simp
structure TornInv (pl : List PF) (pts : List PTear) (i : Nat) (ls : List LeftS) : Prop where
  err : tornE pl pts [] = tornE pl (pts.drop i) (seenL pts i)
  left : ls.map LeftS.p = tornL pl (pts.take i)
  nodup : (ls.map (·.name)).Nodup
theorem TornInv.zero : TornInv pl pts 0 [] := ⟨rfl, rfl, by simp⟩
theorem TornInv.names {i : Nat} (h : TornInv pl pts i l) : l.map (·.name) = (pts.take i).map (·.name) := by
  have := congrArg (List.map (·.1)) h.left
  rw [tornL, List.map_map, List.map_map] at this
  exact this
theorem TornInv.seen {i : Nat} (h : TornInv pl pts i l) {n : ByteArray} : (seenL pts i).any (fun s => decide (s = n)) = true ↔ ∃ x ∈ l, x.name = n := by
  rw [seenL, List.any_reverse, ← h.names, List.any_eq_true]
  constructor
  · rintro ⟨y, hy, e⟩
    obtain ⟨x, hx, rfl⟩ := List.mem_map.1 hy
    exact ⟨x, hx, by simpa using e⟩
  · rintro ⟨x, hx, e⟩
    exact ⟨x.name, List.mem_map.2 ⟨x, hx, rfl⟩, by simpa using e⟩
theorem TornInv.bad {i : Nat} {t : PTear} (h : TornInv pl pts i l) (ht : pts[i]? = some t) (hm : mayN t.name = false) : tornE pl pts [] = 6 := by
  rw [h.err, drop_cons ht, tornE, if_neg (by simp [hm])]
theorem TornInv.no {i : Nat} {t : PTear} (h : TornInv pl pts i l) (ht : pts[i]? = some t) (hm : mayN t.name = true) (hl : lookL pl t.name = none) : tornE pl pts [] = 20 := by
  rw [h.err, drop_cons ht, tornE, if_pos hm, hl]
theorem TornInv.tear {i : Nat} {t : PTear} {f : PF} (h : TornInv pl pts i l) (ht : pts[i]? = some t) (hm : mayN t.name = true) (hl : lookL pl t.name = some f) (hc : (∃ x ∈ l, x.name = t.name) ∨ tearOk f t = false) : tornE pl pts [] = 21 := by
  rw [h.err, drop_cons ht, tornE, if_pos hm, hl]
  simp only
  rw [if_pos]
  rcases hc with hc | hc
  · exact .inl (h.seen.2 hc)
  · exact .inr hc
theorem TornInv.step {i : Nat} {t : PTear} {f : PF} (h : TornInv pl pts i l) (ht : pts[i]? = some t) (hm : mayN t.name = true) (hl : lookL pl t.name = some f) (hno : ∀ x ∈ l, x.name ≠ t.name) (hk : tearOk f t = true) (a : Option Addr) (c : Nat) :
    TornInv pl pts (i + 1) (l ++ [⟨t.name, a, c, tornB f t⟩]) := by
  refine ⟨?_, ?_, ?_⟩
  · rw [h.err, drop_cons ht, tornE, if_pos hm, hl]
    simp only
    rw [if_neg, seen_succ ht]
    rintro (hc | hc)
    · obtain ⟨x, hx, e⟩ := h.seen.1 hc; exact hno x hx e
    · rw [hk] at hc; cases hc
  · rw [take_snoc ht, tornL, List.map_append, List.map_append, h.left, tornL]
    simp only [List.map_cons, List.map_nil, tornP, hl, LeftS.p]
  · rw [List.map_append, List.nodup_append]
    refine ⟨h.nodup, by simp, ?_⟩
    intro y hy z hz
    obtain ⟨x, hx, rfl⟩ := List.mem_map.1 hy
    simp only [List.map_cons, List.map_nil, List.mem_singleton] at hz
    subst hz; exact hno x hx
theorem TornInv.step' {i : Nat} {t : PTear} {f : PF} (h : TornInv pl pts i l) (ht : pts[i]? = some t) {n : ByteArray} (e : n = t.name) (hm : mayN n = true) (hl : lookL pl n = some f) (hno : ∀ x ∈ l, x.name ≠ n) (hk : tearOk f t = true) (a : Option Addr) (c : Nat) :
    TornInv pl pts (i + 1) (l ++ [⟨n, a, c, tornB f t⟩]) := by subst e; exact h.step ht hm hl hno hk a c
theorem tear_no {f : PF} {t : PTear} (h : t.keep < 0 ∨ (f.bytes.length : Int) - f.synced < t.keep ∨ (f.bytes.length : Int) - f.synced - t.keep < t.junk.length) : tearOk f t = false := by
  rw [Bool.eq_false_iff]; intro e; simp only [tearOk, Bool.and_eq_true, decide_eq_true_eq] at e; omega
theorem tear_ok {f : PF} {t : PTear} (h : 0 ≤ t.keep ∧ t.keep ≤ (f.bytes.length : Int) - f.synced ∧ (t.junk.length : Int) ≤ (f.bytes.length : Int) - f.synced - t.keep) : tearOk f t = true := by
  simp only [tearOk, Bool.and_eq_true, decide_eq_true_eq]; omega
end




end Go.Proofs.YtnphndfbgdkgbaaGreatDoor
