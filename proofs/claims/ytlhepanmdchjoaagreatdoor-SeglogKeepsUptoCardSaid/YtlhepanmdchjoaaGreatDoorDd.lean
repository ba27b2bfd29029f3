/-
  Layer 2's walks, third part.
-/
import Derived.Test.YtlhepanmdchjoaaGreatDoorRows
import Derived.Test.YtlhepanmdchjoaaGreatDoorDc
namespace Go.Proofs.YtlhepanmdchjoaaGreatDoor
attribute [local irreducible] St1 RL RA RT RT1 Run

structure TearC where
  name : ByteArray
  keep : Int
  junk : SH
instance : Enc TearC := Enc.struct (fun t => [.string t.name, .int .i64 t.keep, .slice t.junk.a t.junk.len t.junk.cap]) 3 (fun _ => rfl) (fun _ v hv => by simp at hv; rcases hv with rfl | rfl | rfl <;> rfl) (by decide)
/-- slices, each with its bytes -/
structure PartsAt (w : World) (ss : List SH) (bss : List (List UInt8)) : Prop where
  len : ss.length = bss.length
  all : ∀ (i : Nat) (s : SH) (bs : List UInt8), ss[i]? = some s → bss[i]? = some bs → s.len = bs.length ∧ SlOf w s.a bs
theorem PartsAt.ext {w w' : World} {ss : List SH} {bss : List (List UInt8)} (h : PartsAt w ss bss) (k : Ext w w') : PartsAt w' ss bss :=
  ⟨h.len, fun i s bs h1 h2 => ⟨(h.all i s bs h1 h2).1, (h.all i s bs h1 h2).2.ext k⟩⟩
theorem PartsAt.two {w : World} {s t : SH} {a b : List UInt8} (h1 : s.len = a.length) (h2 : SlOf w s.a a) (h3 : t.len = b.length) (h4 : SlOf w t.a b) : PartsAt w [s, t] [a, b] :=
  ⟨rfl, fun i x bs hx hb => by
    match i with
    | 0 => simp at hx hb; subst hx; subst hb; exact ⟨h1, h2⟩
    | 1 => simp at hx hb; subst hx; subst hb; exact ⟨h3, h4⟩
    | i + 2 => simp at hx⟩
/-- tears, as they are handed in, and plain -/
structure TearsAt (w : World) (ts : List TearC) (pts : List PTear) : Prop where
  len : ts.length = pts.length
  all : ∀ (i : Nat) (t : TearC) (p : PTear), ts[i]? = some t → pts[i]? = some p → t.name = p.name ∧ t.keep = p.keep ∧ t.junk.len = p.junk.length ∧ SlOf w t.junk.a p.junk
  size : ∀ p ∈ pts, p.name.size ≤ 4294967295 ∧ p.junk.length ≤ 4294967295 ∧ -9223372036854775808 ≤ p.keep ∧ p.keep ≤ 9223372036854775807
theorem TearsAt.ext {w w' : World} {ts : List TearC} {pts : List PTear} (h : TearsAt w ts pts) (k : Ext w w') : TearsAt w' ts pts :=
  ⟨h.len, fun i t p h1 h2 => have h3 := h.all i t p h1 h2; ⟨h3.1, h3.2.1, h3.2.2.1, h3.2.2.2.ext k⟩, h.size⟩
/-! ### what tears leave, by names -/
structure LeftS where
  name : ByteArray
  a : Option Addr
  cap : Nat
  bytes : List UInt8
def lent (x : LeftS) : ByteArray × Value := (x.name, .slice x.a x.bytes.length x.cap)
def lents (l : List LeftS) : List (ByteArray × Value) := l.map lent
def LeftS.p (x : LeftS) : ByteArray × List UInt8 := (x.name, x.bytes)
def leftS (l : List LeftS) : Nat → Prop := fun q => ∃ x ∈ l, own x.a q
structure LeftAt (w : World) (l : List LeftS) : Prop where
  all : ∀ x ∈ l, OwnSl w 5 x.a x.cap x.bytes
  apart : l.Pairwise (fun x y => ∀ q, own x.a q → ¬ own y.a q)
section
variable {w w' : World} {S : Nat → Prop} {x : LeftS} {l l1 l2 : List LeftS} {pl : List PF} {pts : List PTear}
theorem LeftAt.own_lt (h : LeftAt w l) : ∀ q, leftS l q → q < w.heap.size := fun q ⟨x, hx, hq⟩ => (h.all x hx).own_lt q hq
theorem LeftAt.keepO (h : LeftAt w l) (k : Keeps S w w') (hn : ∀ q, leftS l q → ¬ S q) : LeftAt w' l := ⟨fun x hx => (h.all x hx).keepO k (fun q hq => hn q ⟨x, hx, hq⟩), h.apart⟩
theorem LeftAt.ext (h : LeftAt w l) (k : Ext w w') : LeftAt w' l := h.keepO k fun _ _ => id
theorem LeftAt.nil (w : World) : LeftAt w [] := ⟨fun _ h => absurd h (by simp), List.Pairwise.nil⟩
theorem LeftAt.perm (h : LeftAt w l) {l' : List LeftS} (p : l.Perm l') : LeftAt w l' :=
  ⟨fun f hf => h.all f (p.mem_iff.2 hf), (p.pairwise_iff (fun {a b} hab q h1 h2 => hab q h2 h1)).1 h.apart⟩
theorem LeftAt.snoc (h : LeftAt w l) (hx : OwnSl w 5 x.a x.cap x.bytes) (hn : ∀ q, leftS l q → ¬ own x.a q) : LeftAt w (l ++ [x]) := by
  refine LeftAt.perm (l := x :: l) ⟨fun y hy => ?_, List.pairwise_cons.2 ⟨fun y hy q h1 h2 => hn q ⟨y, hy, h2⟩ h1, h.apart⟩⟩ (List.perm_append_singleton _ _).symm
  rcases List.mem_cons.1 hy with rfl | hy
  · exact hx
  · exact h.all y hy
theorem LeftAt.openE (h : LeftAt w l) (e : l = l1 ++ x :: l2) : OwnSl w 5 x.a x.cap x.bytes ∧ LeftAt w (l1 ++ l2) ∧ ∀ q, leftS (l1 ++ l2) q → ¬ own x.a q := by
  have h' := h.perm (e ▸ List.perm_middle : l.Perm (x :: (l1 ++ l2)))
  obtain ⟨h1, h2⟩ := List.pairwise_cons.1 h'.apart
  exact ⟨h'.all x (by simp), ⟨fun y hy => h'.all y (List.mem_cons_of_mem _ hy), h2⟩, fun q ⟨y, hy, hq⟩ hx => h1 y hy q hx hq⟩
theorem left_case : ∀ q, leftS (l ++ [x]) q → own x.a q ∨ leftS l q := fun q ⟨y, hy, hq⟩ => by
  rcases List.mem_append.1 hy with hy | hy
  · exact .inr ⟨y, hy, hq⟩
  · simp only [List.mem_singleton] at hy; subst hy; exact .inl hq
theorem left_caseN {n : ByteArray} {a : Option Addr} {c : Nat} {b : List UInt8} : ∀ q, leftS (l ++ [⟨n, a, c, b⟩]) q → own a q ∨ leftS l q := left_case
theorem left_subO (e : l = l1 ++ x :: l2) : ∀ q, own x.a q → leftS l q := fun q h => ⟨x, by subst e; simp, h⟩
theorem left_subR (e : l = l1 ++ x :: l2) : ∀ q, leftS (l1 ++ l2) q → leftS l q := fun q ⟨y, hy, hq⟩ => ⟨y, by subst e; rcases List.mem_append.1 hy with h | h <;> simp [h], hq⟩
theorem lents_keys (l : List LeftS) : (lents l).map (·.1) = l.map (·.name) := by simp [lents, lent]
theorem lents_no {n : ByteArray} (h : ∀ x ∈ l, x.name ≠ n) : mget (lents l) n = none := mget_none fun p hp => by obtain ⟨f, hf, rfl⟩ := List.mem_map.1 hp; exact h f hf
theorem lents_in (hn : (l.map (·.name)).Nodup) (hx : x ∈ l) {n : ByteArray} (e : x.name = n) : mget (lents l) n = some (.slice x.a x.bytes.length x.cap) := by
  subst e
  obtain ⟨l1, l2, rfl⟩ := List.append_of_mem hx
  have e2 : lents (l1 ++ x :: l2) = lents l1 ++ (x.name, .slice x.a x.bytes.length x.cap) :: lents l2 := by simp [lents, lent]
  rw [e2]
  exact mget_mid (by rw [← e2, lents_keys]; exact hn)
theorem lents_put {n : ByteArray} (h : ∀ x ∈ l, x.name ≠ n) (a : Option Addr) (c : Nat) (b : List UInt8) : mput (lents l) n (.slice a b.length c) = lents (l ++ [⟨n, a, c, b⟩]) := by
  rw [mput, mfind_no (fun p hp => by obtain ⟨f, hf, rfl⟩ := List.mem_map.1 hp; exact h f hf)]
  simp [lents, lent]
/-! ### the tears, one by one -/
def tornP (pl : List PF) (t : PTear) : ByteArray × List UInt8 := (t.name, match lookL pl t.name with | some f => tornB f t | none => [])
def tornL (pl : List PF) (ts : List PTear) : List (ByteArray × List UInt8) := ts.map (tornP pl)
def seenL (ts : List PTear) (i : Nat) : List ByteArray := ((ts.take i).map (·.name)).reverse
theorem drop_cons {α : Type} {l : List α} {i : Nat} {x : α} (h : l[i]? = some x) : l.drop i = x :: l.drop (i + 1) := by
  obtain ⟨hi, rfl⟩ := List.getElem?_eq_some_iff.1 h; exact List.drop_eq_getElem_cons hi
theorem take_snoc {α : Type} {l : List α} {i : Nat} {x : α} (h : l[i]? = some x) : l.take (i + 1) = l.take i ++ [x] := by
  obtain ⟨hi, rfl⟩ := List.getElem?_eq_some_iff.1 h; exact List.take_succ_eq_append_getElem hi
theorem seen_succ {i : Nat} {t : PTear} (h : pts[i]? = some t) : seenL pts (i + 1) = t.name :: seenL pts i := by rw [seenL, take_snoc h, seenL]; simp
structure TornInv (pl : List PF) (pts : List PTear) (i : Nat) (ls : List LeftS) : Prop where
  err : tornE pl pts [] = tornE pl (pts.drop i) (seenL pts i)
  left : ls.map LeftS.p = tornL pl (pts.take i)
  nodup : (ls.map (·.name)).Nodup
theorem TornInv.zero : TornInv pl pts 0 [] := ⟨rfl, rfl, by simp⟩
theorem TornInv.names {i : Nat} (h : TornInv pl pts i l) : l.map (·.name) = (pts.take i).map (·.name) := by
  have := congrArg (List.map (·.1)) h.left
  rw [tornL, List.map_map, List.map_map] at this
  exact this
theorem TornInv.seen {i : Nat} (h : TornInv pl pts i l) {n : ByteArray} : (seenL pts i).any (fun s => decide (s = n)) = true ↔ ∃ x ∈ l, x.name = n := by
  rw [seenL, List.any_reverse, ← h.names, List.any_eq_true]
  constructor
  · rintro ⟨y, hy, e⟩
    obtain ⟨x, hx, rfl⟩ := List.mem_map.1 hy
    exact ⟨x, hx, by simpa using e⟩
  · rintro ⟨x, hx, e⟩
    exact ⟨x.name, List.mem_map.2 ⟨x, hx, rfl⟩, by simpa using e⟩
theorem TornInv.bad {i : Nat} {t : PTear} (h : TornInv pl pts i l) (ht : pts[i]? = some t) (hm : mayN t.name = false) : tornE pl pts [] = 6 := by
  rw [h.err, drop_cons ht, tornE, if_neg (by simp [hm])]
theorem TornInv.no {i : Nat} {t : PTear} (h : TornInv pl pts i l) (ht : pts[i]? = some t) (hm : mayN t.name = true) (hl : lookL pl t.name = none) : tornE pl pts [] = 20 := by
  rw [h.err, drop_cons ht, tornE, if_pos hm, hl]
theorem TornInv.tear {i : Nat} {t : PTear} {f : PF} (h : TornInv pl pts i l) (ht : pts[i]? = some t) (hm : mayN t.name = true) (hl : lookL pl t.name = some f) (hc : (∃ x ∈ l, x.name = t.name) ∨ tearOk f t = false) : tornE pl pts [] = 21 := by
  rw [h.err, drop_cons ht, tornE, if_pos hm, hl]
  simp only
  rw [if_pos]
  rcases hc with hc | hc
  · exact .inl (h.seen.2 hc)
  · exact .inr hc
theorem TornInv.step {i : Nat} {t : PTear} {f : PF} (h : TornInv pl pts i l) (ht : pts[i]? = some t) (hm : mayN t.name = true) (hl : lookL pl t.name = some f) (hno : ∀ x ∈ l, x.name ≠ t.name) (hk : tearOk f t = true) (a : Option Addr) (c : Nat) :
    TornInv pl pts (i + 1) (l ++ [⟨t.name, a, c, tornB f t⟩]) := by
  refine ⟨?_, ?_, ?_⟩
  · rw [h.err, drop_cons ht, tornE, if_pos hm, hl]
    simp only
    rw [if_neg, seen_succ ht]
    rintro (hc | hc)
    · obtain ⟨x, hx, e⟩ := h.seen.1 hc; exact hno x hx e
    · rw [hk] at hc; cases hc
  · rw [take_snoc ht, tornL, List.map_append, List.map_append, h.left, tornL]
    simp only [List.map_cons, List.map_nil, tornP, hl, LeftS.p]
  · rw [List.map_append, List.nodup_append]
    refine ⟨h.nodup, by simp, ?_⟩
    intro y hy z hz
    obtain ⟨x, hx, rfl⟩ := List.mem_map.1 hy
    simp only [List.map_cons, List.map_nil, List.mem_singleton] at hz
    subst hz; exact hno x hx
theorem TornInv.step' {i : Nat} {t : PTear} {f : PF} (h : TornInv pl pts i l) (ht : pts[i]? = some t) {n : ByteArray} (e : n = t.name) (hm : mayN n = true) (hl : lookL pl n = some f) (hno : ∀ x ∈ l, x.name ≠ n) (hk : tearOk f t = true) (a : Option Addr) (c : Nat) :
    TornInv pl pts (i + 1) (l ++ [⟨n, a, c, tornB f t⟩]) := by subst e; exact h.step ht hm hl hno hk a c
theorem tear_no {f : PF} {t : PTear} (h : t.keep < 0 ∨ (f.bytes.length : Int) - f.synced < t.keep ∨ (f.bytes.length : Int) - f.synced - t.keep < t.junk.length) : tearOk f t = false := by
  rw [Bool.eq_false_iff]; intro e; simp only [tearOk, Bool.and_eq_true, decide_eq_true_eq] at e; omega
theorem tear_ok {f : PF} {t : PTear} (h : 0 ≤ t.keep ∧ t.keep ≤ (f.bytes.length : Int) - f.synced ∧ (t.junk.length : Int) ≤ (f.bytes.length : Int) - f.synced - t.keep) : tearOk f t = true := by
  simp only [tearOk, Bool.and_eq_true, decide_eq_true_eq]; omega
end

theorem flat_len {bss : List (List UInt8)} {i : Nat} {bs : List UInt8} (h : bss[i]? = some bs) : (bss.take (i + 1)).flatten = (bss.take i).flatten ++ bs := by rw [take_snoc h]; simp
theorem flat_le (bss : List (List UInt8)) (i : Nat) : (bss.take i).flatten.length ≤ bss.flatten.length := by
  have e : bss.flatten = (bss.take i).flatten ++ (bss.drop i).flatten := by rw [← List.flatten_append, List.take_append_drop]
  rw [e, List.length_append]; omega

theorem ty9 : Ty Tryz.prog 9 1 16 (.string (⟨#[]⟩)) false := ty_of (by kernel_rfl) (by kernel_rfl)
theorem ty98 : Ty Tryz.prog 98 3 48 (.agg #[.string (⟨#[]⟩), .int .i64 (0), .slice (none) (0) (0)]) true := ty_of (by kernel_rfl) (by kernel_rfl)
theorem en86 : Enters Tryz.prog 86 := enters_of Tryz.func86 rfl (by kernel_rfl)
theorem en104 : Enters Tryz.prog 104 := enters_of Tryz.func104 rfl (by kernel_rfl)

set_option maxRecDepth 100000 in
set_option maxHeartbeats 4000000 in
theorem grow_byte (q : Nat) (w : World) (hq : q ≤ 4294967295) :
    Calls Tryz.prog 104 #[.slice (none) (0) (0), .int .i64 (((q : Nat) : Int))] w (Ret (fun v w' => ∃ a' c', v = .slice a' 0 c' ∧ OwnSl w' 5 a' c' ([] : List UInt8) ∧ (∀ b, own a' b → w.heap.size ≤ b) ∧ Ext w w')) := by
  refine calls_run (n := 27) Tryz.func104 rfl rfl rfl ?_
  refine Run.seq ?_
  refine Run.region ?_
  refine RL.val (x_assignSl rfl) ?_
  refine RL.nil ?_
  refine Run.seq ?_
  refine Run.seq ?_
  refine Run.region ?_
  refine RL.val (x_moveI rfl) ?_
  refine RL.val (x_ltI rfl rfl) ?_
  refine RL.nil ?_
  refine Run.cond rfl (fun hc6 => ?_) (fun hc6 => ?_)
  · try simp only [br] at hc6
    exfalso; omega
  · try simp only [br] at hc6
    refine Run.skip ?_
    refine Run.seq ?_
    refine Run.seq ?_
    refine Run.region ?_
    refine RL.val (x_moveI rfl) ?_
    refine RL.val (x_moveSl rfl) ?_
    refine RL.val (litI (c := 0) (x_capSl Tryz.underlying32 rfl) rfl) ?_
    refine RL.val (x_moveSl rfl) ?_
    refine RL.val (litI (c := 0) (x_lenSl Tryz.underlying32 rfl) rfl) ?_
    refine RL.val (litI (c := 0) (x_sub rfl rfl (by decide) (by decide)) (by decide)) ?_
    refine RL.val (litI (c := ((q : Nat) : Int)) (x_sub rfl rfl (by omega) (by omega)) (by omega)) ?_
    refine RL.val (x_assignI rfl) ?_
    refine RL.nil ?_
    refine Run.seq ?_
    refine Run.region ?_
    refine RL.val (x_moveI rfl) ?_
    refine RL.val (x_gtI rfl rfl) ?_
    refine RL.nil ?_
    refine Run.cond rfl (fun hc16 => ?_) (fun hc16 => ?_)
    · try simp only [br] at hc16
      refine Run.region ?_
      refine RL.val (x_moveSl rfl) ?_
      refine RL.val (x_moveSl rfl) ?_
      refine RL.val (litI (c := 0) (x_capSl Tryz.underlying32 rfl) rfl) ?_
      refine RL.val (x_sliceTo (j := 0) Tryz.underlying32 ty5 rfl rfl (by omega)) ?_
      refine RL.val (x_moveI rfl) ?_
      refine RL.st rfl <| St1.appendZeros (q := q) UInt8 Tryz.underlying32 Tryz.underlying3 ty5 rfl rfl rfl (by omega) (by omega) (by decide) ?_
      intro b_1 c_2 w_3 hl_4 hcp_5 ho_6 K_7
      have pg_8 : ∀ q_, own (some ⟨b_1, 0, none⟩) q_ → w.heap.size ≤ q_ := fun q_ h => Nat.le_trans (Nat.le_refl _) ((ge_new hl_4) q_ h)
      clear hl_4
      have K0 := (K_7 : Ext w _)
      refine RL.val (x_moveSl rfl) ?_
      refine RL.val (litI (c := 0) (x_lenSl Tryz.underlying32 rfl) rfl) ?_
      refine RL.val (x_sliceTo (j := 0) Tryz.underlying32 ty5 rfl rfl (by omega)) ?_
      refine RL.val (x_assignSl rfl) ?_
      refine RL.nil ?_
      refine Run.seq ?_
      refine Run.region ?_
      refine RL.val (x_moveSl rfl) ?_
      refine RL.val (x_assignSl rfl) ?_
      refine RL.nil ?_
      refine Run.ret1 (v := .slice (some ⟨b_1, 0, none⟩) (0) (c_2)) Tryz.func104 rfl rfl ?_
      exact ⟨_, rfl, some ⟨b_1, 0, none⟩, c_2, rfl, ho_6, pg_8, K0⟩
    · try simp only [br] at hc16
      refine Run.skip ?_
      refine Run.seq ?_
      refine Run.region ?_
      refine RL.val (x_moveSl rfl) ?_
      refine RL.val (x_assignSl rfl) ?_
      refine RL.nil ?_
      refine Run.ret1 (v := .slice (none) (0) (0)) Tryz.func104 rfl rfl ?_
      exact ⟨_, rfl, none, 0, rfl, OwnSl.nil _ _, fun b h => absurd h (own_none b), Keeps.refl _ w⟩

set_option maxRecDepth 100000 in
set_option maxHeartbeats 4000000 in
theorem concat_byte (a : Option Addr) (ss : List SH) (c : Nat) (bss : List (List UInt8)) (w : World) (hs : SlOf w a ss) (hp : PartsAt w ss bss) (hl : bss.flatten.length ≤ 4294967295) (hl2 : bss.length ≤ 4294967295) :
    Calls Tryz.prog 86 #[.slice (a) (ss.length) (c)] w (Ret (fun v w' => ∃ a' c', v = .slice a' bss.flatten.length c' ∧ OwnSl w' 5 a' c' bss.flatten ∧ (∀ b, own a' b → w.heap.size ≤ b) ∧ Ext w w')) := by
  have hlen := hp.len
  refine calls_run (n := 36) Tryz.func86 rfl rfl rfl ?_
  refine Run.seq ?_
  refine Run.region ?_
  refine RL.val (x_assignSl rfl) ?_
  refine RL.nil ?_
  refine Run.seq ?_
  refine Run.region ?_
  refine RL.val (x_assignI rfl) ?_
  refine RL.nil ?_
  refine Run.seq ?_
  refine Run.seq ?_
  refine Run.region ?_
  refine RL.val (x_moveSl rfl) ?_
  refine RL.val (x_lenSl Tryz.underlying22 rfl) ?_
  refine RL.val (x_moveI rfl) ?_
  refine RL.nil ?_
  refine Run.block ?_
  refine Run.loop (ι := Nat) (fun i ρ' w' => Holds ρ' [(0, .slice (a) (ss.length) (c)), (3, .int .i64 (((((bss.take i).flatten).length : Nat) : Int))), (9, .slice (a) (ss.length) (c)), (10, .int .i64 (((ss.length : Nat) : Int))), (11, .int .i64 (((i : Nat) : Int)))] ∧ Ext w w' ∧ (i ≤ bss.length)) (fun i => bss.length - i) 0 ?_ ?_
  · refine ⟨⟨rfl, rfl, rfl, rfl, rfl, trivial⟩, (Keeps.refl _ w), ?_⟩
    · omega
  rintro i ρ_3 w_1 ⟨hH_2, K0, hi⟩ ih1
  obtain ⟨ρ₀, rfl⟩ := hH_2.ex
  clear hH_2
  refine Run.seq ?_
  refine Run.region ?_
  refine RL.val (x_ltI rfl rfl) ?_
  refine RL.nil ?_
  refine Run.seq ?_
  refine Run.cond rfl (fun hc12 => ?_) (fun hc12 => ?_)
  · try simp only [br] at hc12
    refine Run.skip ?_
    refine Run.seq ?_
    refine Run.block ?_
    refine Run.seq ?_
    refine Run.region ?_
    obtain ⟨b_4, o_5, s, hx, ha_6, hc_7⟩ := hs.el (i := i) (by first | omega | (simp only [List.length_set]; omega))
    have hc_7_lt := hc_7.lt
    replace hc_7 := hc_7.ext K0
    refine RL.val (x_idxN Tryz.underlying22 ty32 rfl rfl ha_6 (by first | omega | (simp only [List.length_set]; omega))) ?_
    refine RL.val (x_ldV (v := .slice (s.a) (s.len) (s.cap)) (y := s) ty32 rfl hc_7 rfl) ?_
    refine RL.val (x_assignSl rfl) ?_
    refine RL.nil ?_
    obtain ⟨bs, hbs⟩ : ∃ bs, bss[i]? = some bs := ⟨_, List.getElem?_eq_getElem (by omega)⟩
    obtain ⟨hsl1, hsl2⟩ := (hp.ext K0).all i s bs hx hbs
    have hfl := flat_len (i := i) hbs
    have hfl2 : (bss.take (i + 1)).flatten.length = (bss.take i).flatten.length + bs.length := by rw [hfl, List.length_append]
    have hft := flat_le bss (i + 1)
    refine Run.seq ?_
    refine Run.region ?_
    refine RL.val (x_moveI rfl) ?_
    refine RL.val (x_moveSl rfl) ?_
    refine RL.val (x_lenSl Tryz.underlying32 rfl) ?_
    refine RL.val (litI (c := (((bss.take (i + 1)).flatten).length : Int)) (litI (c := (((((bss.take i).flatten).length) + s.len : Nat) : Int)) (x_add rfl rfl (by omega) (by omega)) rfl) (by omega)) ?_
    refine RL.val (x_assignI rfl) ?_
    refine RL.nil ?_
    refine Run.seq ?_
    refine Run.region ?_
    refine RL.val (x_moveI rfl) ?_
    refine RL.val (x_ltI rfl rfl) ?_
    refine RL.nil ?_
    refine Run.cond rfl (fun hc20 => ?_) (fun hc20 => ?_)
    · try simp only [br] at hc20
      exfalso; omega
    · try simp only [br] at hc20
      refine Run.skip ?_
      refine Run.inBlock ?_
      refine Run.region ?_
      refine RL.val (litI (c := ((i + 1 : Nat) : Int)) (x_add rfl rfl (by omega) (by omega)) rfl) ?_
      refine RL.val (x_moveI rfl) ?_
      refine RL.nil ?_
      refine ih1 (i + 1) _ _ ?_ (by omega)
      refine ⟨⟨rfl, rfl, rfl, rfl, rfl, trivial⟩, K0, ?_⟩
      · omega
  · try simp only [br] at hc12
    refine Run.exit rfl ?_
    refine Run.seq ?_
    have hfull : (bss.take i).flatten = bss.flatten := by rw [List.take_of_length_le (by omega)]
    rw [hfull]
    refine Run.region ?_
    refine RL.val (x_moveI rfl) ?_
    refine RL.st rfl <| St1.call (vals := [.slice (none) (0) (0), .int .i64 (((bss.flatten.length : Nat) : Int))]) en104 rfl (grow_byte bss.flatten.length _ (by omega)) ?_
    rintro _ w_12 ⟨a_10, c_11, rfl, ho_13, hg_14, K_15⟩
    have pg_16 : ∀ q_, own a_10 q_ → w.heap.size ≤ q_ := fun q_ h => Nat.le_trans K0.size (hg_14 q_ h)
    clear hg_14
    replace K0 := K0.ext K_15
    refine RL.val (x_assignSl rfl) ?_
    refine RL.nil ?_
    refine Run.seq ?_
    refine Run.seq ?_
    refine Run.region ?_
    refine RL.val (x_moveSl rfl) ?_
    refine RL.val (x_lenSl Tryz.underlying22 rfl) ?_
    refine RL.val (x_moveI rfl) ?_
    refine RL.nil ?_
    refine Run.block ?_
    refine Run.loop (ι := Nat) (fun i ρ' w' => ∃ ao : Option Addr, ∃ co : Nat, Holds ρ' [(6, .slice (ao) (((bss.take i).flatten).length) (co)), (25, .slice (a) (ss.length) (c)), (26, .int .i64 (((ss.length : Nat) : Int))), (27, .int .i64 (((i : Nat) : Int)))] ∧ Ext w w' ∧ (OwnSl w' 5 ao co ((bss.take i).flatten)) ∧ (∀ q_, own ao q_ → w.heap.size ≤ q_) ∧ (i ≤ bss.length)) (fun i => bss.length - i) 0 ?_ ?_
    · refine ⟨_, _, ⟨rfl, rfl, rfl, rfl, trivial⟩, K0, ho_13, pg_16, ?_⟩
      · omega
    clear ho_13
    clear K0
    rintro i ρ_21 w_17 ⟨ao, co, hH_18, K0, ho_19, pr_20, hi⟩ ih2
    obtain ⟨ρ₀, rfl⟩ := hH_18.ex
    clear hH_18
    refine Run.seq ?_
    refine Run.region ?_
    refine RL.val (x_ltI rfl rfl) ?_
    refine RL.nil ?_
    refine Run.seq ?_
    refine Run.cond rfl (fun hc28 => ?_) (fun hc28 => ?_)
    · try simp only [br] at hc28
      refine Run.skip ?_
      refine Run.seq ?_
      refine Run.block ?_
      refine Run.seq ?_
      refine Run.region ?_
      obtain ⟨b_22, o_23, s, hx, ha_24, hc_25⟩ := hs.el (i := i) (by first | omega | (simp only [List.length_set]; omega))
      have hc_25_lt := hc_25.lt
      replace hc_25 := hc_25.ext K0
      refine RL.val (x_idxN Tryz.underlying22 ty32 rfl rfl ha_24 (by first | omega | (simp only [List.length_set]; omega))) ?_
      refine RL.val (x_ldV (v := .slice (s.a) (s.len) (s.cap)) (y := s) ty32 rfl hc_25 rfl) ?_
      refine RL.val (x_assignSl rfl) ?_
      refine RL.nil ?_
      obtain ⟨bs, hbs⟩ : ∃ bs, bss[i]? = some bs := ⟨_, List.getElem?_eq_getElem (by omega)⟩
      obtain ⟨hsl1, hsl2⟩ := (hp.ext K0).all i s bs hx hbs
      have hfl := flat_len (i := i) hbs
      have hfl2 : (bss.take (i + 1)).flatten.length = (bss.take i).flatten.length + bs.length := by rw [hfl, List.length_append]
      have hft := flat_le bss (i + 1)
      rw [hsl1]
      refine Run.region ?_
      refine RL.val (x_moveSl rfl) ?_
      refine RL.val (x_moveSl rfl) ?_
      refine RL.st rfl <| St1.append (xs := (bss.take i).flatten) (ys := bs) Tryz.underlying32 ty5 rfl rfl rfl ho_19 hsl2 (by have := flat_le bss i; rw [hfl, List.length_append] at hft; omega) (by decide) ?_
      intro a_28 c_29 w_30 ho_31 K_32 hm_33 hrm_34
      have pg_35 : ∀ q_, own a_28 q_ → w.heap.size ≤ q_ := hm_33.ge pr_20 K0.size
      replace K0 := K0.new K_32 pr_20
      clear hm_33
      clear hrm_34
      refine RL.val (x_assignSl rfl) ?_
      refine RL.nil ?_
      refine Run.inBlock ?_
      refine Run.region ?_
      refine RL.val (litI (c := ((i + 1 : Nat) : Int)) (x_add rfl rfl (by omega) (by omega)) rfl) ?_
      refine RL.val (x_moveI rfl) ?_
      refine RL.nil ?_
      refine ih2 (i + 1) _ _ ?_ (by omega)
      rw [hfl]
      refine ⟨_, _, ⟨rfl, rfl, rfl, rfl, trivial⟩, K0, ho_31, pg_35, ?_⟩
      · omega
    · try simp only [br] at hc28
      refine Run.exit rfl ?_
      refine Run.seq ?_
      refine Run.region ?_
      refine RL.val (x_moveSl rfl) ?_
      refine RL.val (x_assignSl rfl) ?_
      refine RL.nil ?_
      refine Run.ret1 (v := .slice (ao) (((bss.take i).flatten).length) (co)) Tryz.func86 rfl rfl ?_
      have hil : i = bss.length := by omega
      subst hil
      rw [List.take_length] at ho_19 ⊢
      exact ⟨_, rfl, ao, co, rfl, ho_19, pr_20, K0⟩

theorem concat2 (a : Option Addr) (ss : List SH) (c : Nat) (bss : List (List UInt8)) (r : List UInt8) (w : World) (hs : SlOf w a ss) (hp : PartsAt w ss bss) (hl2 : bss.length ≤ 4294967295) (he : bss.flatten = r) (hl : r.length ≤ 4294967295) :
    Calls Tryz.prog 86 #[.slice a ss.length c] w (Ret fun v w' => ∃ a' c', v = .slice a' r.length c' ∧ OwnSl w' 5 a' c' r ∧ (∀ b, own a' b → w.heap.size ≤ b) ∧ Ext w w') := by
  subst he; exact concat_byte a ss c bss w hs hp hl hl2

set_option maxRecDepth 100000 in
set_option maxHeartbeats 4000000 in
theorem torn_ (d m : Nat) (room : Int) (fs : List FileS) (a : Option Addr) (ts : List TearC) (c : Nat) (pts : List PTear) (w : World) (hD : DiskO w d m room fs) (hs : SlOf w a ts) (ht : TearsAt w ts pts) (hl : ts.length ≤ 4294967295) :
    Calls Tryz.prog 56 #[.pointer (some ⟨d, 0, none⟩), .slice (a) (ts.length) (c)] w (Ret (fun v w' => Ext w w' ∧ ((tornE (fs.map FileS.p) pts [] ≠ 0 ∧ v = .tuple #[.map none, .int .i64 (tornE (fs.map FileS.p) pts [])]) ∨ (tornE (fs.map FileS.p) pts [] = 0 ∧ ∃ lm ls, v = .tuple #[.map (some lm), .int .i64 0] ∧ MapAt w' lm (lents ls) ∧ LeftAt w' ls ∧ ls.map LeftS.p = tornL (fs.map FileS.p) pts ∧ (ls.map (·.name)).Nodup ∧ (∀ q, leftS ls q → ¬ one lm q) ∧ w.heap.size ≤ lm ∧ (∀ q, leftS ls q → w.heap.size ≤ q))))) := by
  obtain ⟨hB, hM, hF, hmd, hfd, hfm, hok⟩ := hD
  have hnd := DiskO.names hok
  have hlens := PLOk.lens hok
  have hroom := hok.room
  have hused := hok.used
  have hcnt := hok.len
  rw [List.length_map] at hcnt
  refine calls_run (n := 91) Tryz.func56 rfl rfl rfl ?_
  refine Run.seq ?_
  refine Run.region ?_
  refine RL.val (x_assignM rfl) ?_
  refine RL.val (x_assignI rfl) ?_
  refine RL.nil ?_
  refine Run.seq ?_
  refine Run.region ?_
  refine RL.st rfl <| St1.makeMap (κ := ByteArray) ?_
  intro m_1 w_2 hl_3 hM_4 K_5
  have pr_6 : ¬ one m_1 d := notNew (ge_one hl_3) hB.lt
  have pr_7 : ∀ q_, one m_1 q_ → ¬ one m q_ := apartNew (ge_one hl_3) hM.own_lt
  have pr_8 : ∀ q_, one m_1 q_ → ¬ filesS fs q_ := apartNew (ge_one hl_3) hF.own_lt
  have pg_9 : ∀ q_, one m_1 q_ → w.heap.size ≤ q_ := fun q_ h => Nat.le_trans (Nat.le_refl _) ((ge_one hl_3) q_ h)
  clear hl_3
  replace hB := hB.ext K_5
  replace hM := hM.ext K_5
  replace hF := hF.ext K_5
  have K0 := (K_5 : Ext w _)
  refine RL.val (x_assignM rfl) ?_
  refine RL.nil ?_
  have hL := LeftAt.nil w_2
  refine Run.seq ?_
  refine Run.seq ?_
  refine Run.region ?_
  refine RL.val (x_moveSl rfl) ?_
  refine RL.val (x_lenSl Tryz.underlying57 rfl) ?_
  refine RL.val (x_moveI rfl) ?_
  refine RL.nil ?_
  refine Run.block ?_
  refine Run.loop (ι := Nat) (fun i ρ' w' => ∃ ls : List LeftS, Holds ρ' [(0, .pointer (some ⟨d, 0, none⟩)), (6, .map (some m_1)), (15, .slice (a) (ts.length) (c)), (16, .int .i64 (((ts.length : Nat) : Int))), (17, .int .i64 (((i : Nat) : Int)))] ∧ Ext w w' ∧ (Blk w' d [.map (some m), .int .i64 (room)] 51) ∧ (MapAt w' m (ents fs)) ∧ (FilesAt w' fs) ∧ (MapAt w' m_1 (lents ls)) ∧ (LeftAt w' ls) ∧ (¬ one m_1 d) ∧ (∀ q_, one m_1 q_ → ¬ one m q_) ∧ (∀ q_, one m_1 q_ → ¬ filesS fs q_) ∧ (∀ q_, one m_1 q_ → ¬ leftS ls q_) ∧ (∀ q_, one m_1 q_ → w.heap.size ≤ q_) ∧ (¬ leftS ls d) ∧ (∀ q_, leftS ls q_ → ¬ one m q_) ∧ (∀ q_, leftS ls q_ → ¬ filesS fs q_) ∧ (∀ q_, leftS ls q_ → w.heap.size ≤ q_) ∧ (i ≤ ts.length) ∧ (TornInv (fs.map FileS.p) pts i ls)) (fun i => ts.length - i) 0 ?_ ?_
  · refine ⟨[], ⟨rfl, rfl, rfl, rfl, rfl, trivial⟩, K0, hB, hM, hF, hM_4, hL, pr_6, pr_7, pr_8, (fun q_ h1 h2 => (fun q_ ⟨_, h_, _⟩ _ => absurd h_ (by simp)) q_ h2 h1), pg_9, (fun ⟨_, h_, _⟩ => absurd h_ (by simp)), (fun q_ ⟨_, h_, _⟩ _ => absurd h_ (by simp)), (fun q_ ⟨_, h_, _⟩ _ => absurd h_ (by simp)), (fun q_ ⟨_, h_, _⟩ => absurd h_ (by simp)), ?_, ?_⟩
    · omega
    · exact TornInv.zero
  clear hB hM hF hM_4 hL
  clear K0
  rintro i ρ_23 w_10 ⟨ls, hH_11, K0, hB, hM, hF, hO_12, hO_13, pr_14, pr_15, pr_16, pr_17, pr_18, pr_19, pr_20, pr_21, pr_22, hi, hti⟩ ih1
  obtain ⟨ρ₀, rfl⟩ := hH_11.ex
  clear hH_11
  refine Run.seq ?_
  refine Run.region ?_
  refine RL.val (x_ltI rfl rfl) ?_
  refine RL.nil ?_
  refine Run.seq ?_
  refine Run.cond rfl (fun hc18 => ?_) (fun hc18 => ?_)
  · try simp only [br] at hc18
    refine Run.skip ?_
    refine Run.seq ?_
    refine Run.block ?_
    refine Run.seq ?_
    refine Run.region ?_
    obtain ⟨b_24, o_25, t, hx, ha_26, hc_27⟩ := hs.el (i := i) (by first | omega | (simp only [List.length_set]; omega))
    have hc_27_lt := hc_27.lt
    replace hc_27 := hc_27.ext K0
    refine RL.val (x_idxN Tryz.underlying57 ty98 rfl rfl ha_26 (by first | omega | (simp only [List.length_set]; omega))) ?_
    refine RL.val (x_ldV (v := .agg #[.string ((t).name), .int .i64 ((t).keep), .slice ((t).junk.a) ((t).junk.len) ((t).junk.cap)]) (y := t) ty98 rfl hc_27 rfl) ?_
    refine RL.st rfl <| St1.alloc ty98 ?_
    intro b_30 w_31 hl_34 hb_33 K_32
    replace hb_33 : Blk w_31 b_30 [.string (⟨#[]⟩), .int .i64 (0), .slice (none) (0) (0)] 98 := hb_33
    have ne_35 : d < b_30 := Nat.lt_of_lt_of_le hB.lt hl_34
    have ne_36 : b_24 < b_30 := Nat.lt_of_lt_of_le hc_27.lt hl_34
    have pr_37 : ¬ one m b_30 := fun h => absurd (hM.own_lt _ h) (by omega)
    have pr_38 : ¬ filesS fs b_30 := fun h => absurd (hF.own_lt _ h) (by omega)
    have pr_39 : ¬ one m_1 b_30 := fun h => absurd (hO_12.own_lt _ h) (by omega)
    have pr_40 : ¬ leftS ls b_30 := fun h => absurd (hO_13.own_lt _ h) (by omega)
    have : w.heap.size ≤ b_30 := Nat.le_trans K0.size hl_34
    clear hl_34
    replace hB := hB.ext K_32
    replace hM := hM.ext K_32
    replace hF := hF.ext K_32
    replace hO_12 := hO_12.ext K_32
    replace hO_13 := hO_13.ext K_32
    replace hc_27 := hc_27.ext K_32
    replace K0 := K0.ext K_32
    refine RL.st rfl <| St1.store (v := .agg #[.string ((t).name), .int .i64 ((t).keep), .slice ((t).junk.a) ((t).junk.len) ((t).junk.cap)]) ty98 rfl rfl rfl (by simp [Value.cells, Value.oneCell']) hb_33 (by simp) ?_
    intro w_41 hb_33_ K_42
    have hb_33' : Blk w_41 b_30 [.string ((t).name), .int .i64 ((t).keep), .slice ((t).junk.a) ((t).junk.len) ((t).junk.cap)] 98 := hb_33_
    clear hb_33_
    replace hB := hB.keep K_42 (by simp only [one]; omega)
    replace hM := hM.keepO K_42 (fun q_ hq_ eq_ => pr_37 (by simp only [one] at eq_; rw [← eq_]; exact hq_))
    replace hF := hF.keepO K_42 (fun q_ hq_ eq_ => pr_38 (by simp only [one] at eq_; rw [← eq_]; exact hq_))
    replace hO_12 := hO_12.keepO K_42 (fun q_ hq_ eq_ => pr_39 (by simp only [one] at eq_; rw [← eq_]; exact hq_))
    replace hO_13 := hO_13.keepO K_42 (fun q_ hq_ eq_ => pr_40 (by simp only [one] at eq_; rw [← eq_]; exact hq_))
    replace hc_27 := hc_27.keep K_42 (by simp only [one]; omega)
    replace K0 := K0.new K_42 (fun x hx => by simp only [one] at hx; omega)
    replace hb_33 := hb_33'
    clear hb_33'
    refine RL.nil ?_
    obtain ⟨p, hp⟩ : ∃ p, pts[i]? = some p := ⟨_, List.getElem?_eq_getElem (by rw [← ht.len]; omega)⟩
    obtain ⟨htn, htk, htl, htj⟩ := ht.all i t p hx hp
    obtain ⟨hz1, hz2, hz3, hz4⟩ := ht.size p (List.mem_of_getElem? hp)
    have hns : t.name.size ≤ 4294967295 := by rw [htn]; exact hz1
    have hlnd := hti.nodup
    refine Run.seq ?_
    refine Run.region ?_
    refine RL.val (x_moveP rfl) ?_
    refine RL.val (x_fld (o' := 0) Tryz.underlying98 rfl ty9 rfl rfl rfl) ?_
    refine RL.val (x_ld (v := .string ((t).name)) ty9 rfl rfl (hb_33.cl.field (i := 0) rfl)) ?_
    refine RL.st rfl <| St1.call (vals := [.pointer (some ⟨d, 0, none⟩), .string ((t).name)]) en60 rfl (look_ d m room fs ((t).name) _ (⟨hB, hM, hF, hmd, hfd, hfm, hok⟩ : DiskO _ d m room fs) (by omega)) ?_
    rintro _ w_43 ⟨K_44, (⟨hmay, rfl⟩ | ⟨hmay, hno, rfl⟩ | ⟨hmay, l1, f, l2, hfs, hfn, rfl⟩)⟩
    · replace hB := hB.ext K_44
      replace hM := hM.ext K_44
      replace hF := hF.ext K_44
      replace hO_12 := hO_12.ext K_44
      replace hO_13 := hO_13.ext K_44
      replace hb_33 := hb_33.ext K_44
      replace K0 := K0.ext K_44
      refine RL.val (x_moveT rfl) ?_
      refine RL.val (x_extract rfl rfl) ?_
      refine RL.val (x_extract rfl rfl) ?_
      refine RL.val (x_assignP rfl) ?_
      refine RL.val (x_assignI rfl) ?_
      refine RL.nil ?_
      refine Run.seq ?_
      refine Run.seq ?_
      refine Run.region ?_
      refine RL.val (x_moveI rfl) ?_
      refine RL.val (litT (x_neI rfl rfl) (by decide)) ?_
      refine RL.nil ?_
      refine Run.condT rfl ?_
      refine Run.seq ?_
      refine Run.region ?_
      refine RL.val (x_moveI rfl) ?_
      refine RL.val (x_assignM rfl) ?_
      refine RL.val (x_assignI rfl) ?_
      refine RL.nil ?_
      refine Run.ret2 (v := .map none) (x := .int .i64 (6)) Tryz.func56 rfl rfl rfl ?_
      have he := hti.bad hp (by rw [← htn]; exact hmay)
      exact ⟨_, rfl, K0, .inl ⟨by rw [he]; decide, by rw [he]⟩⟩
    · replace hB := hB.ext K_44
      replace hM := hM.ext K_44
      replace hF := hF.ext K_44
      replace hO_12 := hO_12.ext K_44
      replace hO_13 := hO_13.ext K_44
      replace hb_33 := hb_33.ext K_44
      replace K0 := K0.ext K_44
      refine RL.val (x_moveT rfl) ?_
      refine RL.val (x_extract rfl rfl) ?_
      refine RL.val (x_extract rfl rfl) ?_
      refine RL.val (x_assignP rfl) ?_
      refine RL.val (x_assignI rfl) ?_
      refine RL.nil ?_
      refine Run.seq ?_
      refine Run.seq ?_
      refine Run.region ?_
      refine RL.val (x_moveI rfl) ?_
      refine RL.val (litT (x_neI rfl rfl) (by decide)) ?_
      refine RL.nil ?_
      refine Run.condT rfl ?_
      refine Run.seq ?_
      refine Run.region ?_
      refine RL.val (x_moveI rfl) ?_
      refine RL.val (x_assignM rfl) ?_
      refine RL.val (x_assignI rfl) ?_
      refine RL.nil ?_
      refine Run.ret2 (v := .map none) (x := .int .i64 (20)) Tryz.func56 rfl rfl rfl ?_
      have he := hti.no hp (by rw [← htn]; exact hmay) (by rw [← htn]; exact lookP_no hno)
      exact ⟨_, rfl, K0, .inl ⟨by rw [he]; decide, by rw [he]⟩⟩
    · replace hB := hB.ext K_44
      replace hM := hM.ext K_44
      replace hF := hF.ext K_44
      replace hO_12 := hO_12.ext K_44
      replace hO_13 := hO_13.ext K_44
      replace hb_33 := hb_33.ext K_44
      replace K0 := K0.ext K_44
      have hfl := hlens f (mem_mid hfs)
      refine RL.val (x_moveT rfl) ?_
      refine RL.val (x_extract rfl rfl) ?_
      refine RL.val (x_extract rfl rfl) ?_
      refine RL.val (x_assignP rfl) ?_
      refine RL.val (x_assignI rfl) ?_
      refine RL.nil ?_
      refine Run.seq ?_
      refine Run.seq ?_
      refine Run.region ?_
      refine RL.val (x_moveI rfl) ?_
      refine RL.val (litF (x_neI rfl rfl) (by decide)) ?_
      refine RL.nil ?_
      refine Run.condF rfl ?_
      refine Run.skip ?_
      refine Run.seq ?_
      by_cases h8 : ∃ x ∈ ls, x.name = t.name
      · obtain ⟨x, hxl, hxn⟩ := h8
        refine Run.region ?_
        refine RL.val (x_moveM rfl) ?_
        refine RL.val (x_fld (o' := 0) Tryz.underlying98 rfl ty9 rfl rfl rfl) ?_
        refine RL.val (x_ld (v := .string ((t).name)) ty9 rfl rfl (hb_33.cl.field (i := 0) rfl)) ?_
        refine RL.val (litV (v' := .tuple #[.slice (x.a) (x.bytes.length) (x.cap), .bool (true)]) (x_lookupOk Tryz.underlying60 Tryz.underlying9 rfl ty32 rfl rfl hO_12) (by rw [lents_in hlnd hxl hxn]; rfl)) ?_
        refine RL.val (x_moveT rfl) ?_
        refine RL.val (x_extract rfl rfl) ?_
        refine RL.val (x_extract rfl rfl) ?_
        refine RL.val (x_assignSl rfl) ?_
        refine RL.val (x_assignB rfl) ?_
        refine RL.nil ?_
        refine Run.seq ?_
        have hfx := hF.all f (mem_mid hfs)
        have hb := hfx.blk
        have hsl := hfx.own.sl
        have hcp := hfx.own.le_cap
        have hsy := (hlens f (mem_mid hfs)).1
        have pr_45 : ¬ one m f.blk := fun h_ => (fun q_ h1 h2 => hfm q_ h2 h1) _ h_ (files_subB hfs)
        have pr_46 : ¬ one m_1 f.blk := fun h_ => pr_16 _ h_ (files_subB hfs)
        have pr_47 : ¬ leftS ls f.blk := fun h_ => pr_21 _ h_ (files_subB hfs)
        refine Run.draw' (m := 11) (by kernel_rfl) rfl ?_
        intro w_48 K_49
        replace hB := hB.ext K_49
        replace hM := hM.ext K_49
        replace hF := hF.ext K_49
        replace hO_12 := hO_12.ext K_49
        replace hO_13 := hO_13.ext K_49
        replace hb_33 := hb_33.ext K_49
        replace hb := hb.ext K_49
        replace hsl := hsl.ext K_49
        replace K0 := K0.ext K_49
        refine RA.take (v := .pointer (some ⟨f.blk, 0, none⟩)) 0 rfl (by kernel_rfl) rfl (by rintro _ rfl; exact (x_moveP rfl)) ?_
        refine RA.take (v := .pointer (some ⟨f.blk, 0, none⟩)) 1 rfl (by kernel_rfl) rfl (by rintro _ rfl; exact (x_nilCheck rfl)) ?_
        refine RA.take (v := .pointer (some ⟨f.blk, 0, none⟩)) 2 rfl (by kernel_rfl) rfl (by rintro _ rfl; exact (x_fld (o' := 0) Tryz.underlying90 rfl ty32 rfl rfl rfl)) ?_
        refine RA.take (v := .slice (f.a) (f.bytes.length) (f.cap)) 3 rfl (by kernel_rfl) rfl (by rintro _ rfl; exact (x_ld (v := .slice (f.a) (f.bytes.length) (f.cap)) ty32 rfl rfl (hb.cl.field (i := 0) rfl))) ?_
        refine RA.take (v := .int .i64 (((f.bytes.length : Nat) : Int))) 4 rfl (by kernel_rfl) rfl (by rintro _ rfl; exact (x_lenSl Tryz.underlying32 rfl)) ?_
        refine RA.take (v := .pointer (some ⟨f.blk, 0, none⟩)) 5 rfl (by kernel_rfl) rfl (by rintro _ rfl; exact (x_moveP rfl)) ?_
        refine RA.take (v := .pointer (some ⟨f.blk, 0, none⟩)) 6 rfl (by kernel_rfl) rfl (by rintro _ rfl; exact (x_nilCheck rfl)) ?_
        refine RA.take (v := .pointer (some ⟨f.blk, 1, none⟩)) 7 rfl (by kernel_rfl) rfl (by rintro _ rfl; exact (x_fld (o' := 1) Tryz.underlying90 rfl ty3 rfl rfl rfl)) ?_
        refine RA.take (v := .int .i64 (((f.synced : Nat) : Int))) 8 rfl (by kernel_rfl) rfl (by rintro _ rfl; exact (x_ld (v := .int .i64 (((f.synced : Nat) : Int))) ty3 rfl rfl (hb.cl.field (i := 1) rfl))) ?_
        refine RA.take (v := .int .i64 (((f.bytes.length : Nat) : Int) - ((f.synced : Nat) : Int))) 9 rfl (by kernel_rfl) rfl (by rintro _ rfl; exact (x_sub rfl rfl (by omega) (by omega))) ?_
        refine RA.take (v := .int .i64 (((f.bytes.length : Nat) : Int) - ((f.synced : Nat) : Int))) 10 rfl (by kernel_rfl) rfl (by rintro _ rfl; exact (x_assignI rfl)) ?_
        refine RA.done (by kernel_rfl) ?_
        refine Run.seq ?_
        refine Run.seq ?_
        refine Run.region ?_
        refine RL.val (x_moveB rfl) ?_
        refine RL.val (x_moveB rfl) ?_
        refine RL.guardF (wantedF0 rfl rfl rfl rfl) ?_
        refine RL.guardF (wantedF0 rfl rfl rfl rfl) ?_
        refine RL.guardF (wantedF0 rfl rfl rfl rfl) ?_
        refine RL.val (x_or (b := true) (e := false) rfl rfl rfl) ?_
        refine RL.val (x_moveB rfl) ?_
        refine RL.guardF (wantedF0 rfl rfl rfl rfl) ?_
        refine RL.guardF (wantedF0 rfl rfl rfl rfl) ?_
        refine RL.guardF (wantedF0 rfl rfl rfl rfl) ?_
        refine RL.guardF (wantedF0 rfl rfl rfl rfl) ?_
        refine RL.val (x_or (b := true) (e := false) rfl rfl rfl) ?_
        refine RL.val (x_moveB rfl) ?_
        refine RL.guardF (wantedF0 rfl rfl rfl rfl) ?_
        refine RL.guardF (wantedF0 rfl rfl rfl rfl) ?_
        refine RL.guardF (wantedF0 rfl rfl rfl rfl) ?_
        refine RL.guardF (wantedF0 rfl rfl rfl rfl) ?_
        refine RL.guardF (wantedF0 rfl rfl rfl rfl) ?_
        refine RL.guardF (wantedF0 rfl rfl rfl rfl) ?_
        refine RL.guardF (wantedF0 rfl rfl rfl rfl) ?_
        refine RL.guardF (wantedF0 rfl rfl rfl rfl) ?_
        refine RL.val (x_or (b := true) (e := false) rfl rfl rfl) ?_
        refine RL.nil ?_
        refine Run.condT rfl ?_
        refine Run.seq ?_
        refine Run.region ?_
        refine RL.val (x_assignM rfl) ?_
        refine RL.val (x_assignI rfl) ?_
        refine RL.nil ?_
        refine Run.ret2 (v := .map none) (x := .int .i64 (21)) Tryz.func56 rfl rfl rfl ?_
        have he := hti.tear hp (by rw [← htn]; exact hmay) (by rw [← htn]; exact lookP_in hnd hfs hfn) (.inl ⟨x, hxl, by rw [← htn]; exact hxn⟩)
        exact ⟨_, rfl, K0, .inl ⟨by rw [he]; decide, by rw [he]⟩⟩
      · have hxno : ∀ x ∈ ls, x.name ≠ t.name := fun x hx e => h8 ⟨x, hx, e⟩
        refine Run.region ?_
        refine RL.val (x_moveM rfl) ?_
        refine RL.val (x_fld (o' := 0) Tryz.underlying98 rfl ty9 rfl rfl rfl) ?_
        refine RL.val (x_ld (v := .string ((t).name)) ty9 rfl rfl (hb_33.cl.field (i := 0) rfl)) ?_
        refine RL.val (litV (v' := .tuple #[.slice (none) (0) (0), .bool (false)]) (x_lookupOk Tryz.underlying60 Tryz.underlying9 rfl ty32 rfl rfl hO_12) (by rw [lents_no hxno]; rfl)) ?_
        refine RL.val (x_moveT rfl) ?_
        refine RL.val (x_extract rfl rfl) ?_
        refine RL.val (x_extract rfl rfl) ?_
        refine RL.val (x_assignSl rfl) ?_
        refine RL.val (x_assignB rfl) ?_
        refine RL.nil ?_
        refine Run.seq ?_
        have hfx := hF.all f (mem_mid hfs)
        have hb := hfx.blk
        have hsl := hfx.own.sl
        have hcp := hfx.own.le_cap
        have hsy := (hlens f (mem_mid hfs)).1
        have pr_50 : ¬ one m f.blk := fun h_ => (fun q_ h1 h2 => hfm q_ h2 h1) _ h_ (files_subB hfs)
        have pr_51 : ¬ one m_1 f.blk := fun h_ => pr_16 _ h_ (files_subB hfs)
        have pr_52 : ¬ leftS ls f.blk := fun h_ => pr_21 _ h_ (files_subB hfs)
        refine Run.draw' (m := 11) (by kernel_rfl) rfl ?_
        intro w_53 K_54
        replace hB := hB.ext K_54
        replace hM := hM.ext K_54
        replace hF := hF.ext K_54
        replace hO_12 := hO_12.ext K_54
        replace hO_13 := hO_13.ext K_54
        replace hb_33 := hb_33.ext K_54
        replace hb := hb.ext K_54
        replace hsl := hsl.ext K_54
        replace K0 := K0.ext K_54
        refine RA.take (v := .pointer (some ⟨f.blk, 0, none⟩)) 0 rfl (by kernel_rfl) rfl (by rintro _ rfl; exact (x_moveP rfl)) ?_
        refine RA.take (v := .pointer (some ⟨f.blk, 0, none⟩)) 1 rfl (by kernel_rfl) rfl (by rintro _ rfl; exact (x_nilCheck rfl)) ?_
        refine RA.take (v := .pointer (some ⟨f.blk, 0, none⟩)) 2 rfl (by kernel_rfl) rfl (by rintro _ rfl; exact (x_fld (o' := 0) Tryz.underlying90 rfl ty32 rfl rfl rfl)) ?_
        refine RA.take (v := .slice (f.a) (f.bytes.length) (f.cap)) 3 rfl (by kernel_rfl) rfl (by rintro _ rfl; exact (x_ld (v := .slice (f.a) (f.bytes.length) (f.cap)) ty32 rfl rfl (hb.cl.field (i := 0) rfl))) ?_
        refine RA.take (v := .int .i64 (((f.bytes.length : Nat) : Int))) 4 rfl (by kernel_rfl) rfl (by rintro _ rfl; exact (x_lenSl Tryz.underlying32 rfl)) ?_
        refine RA.take (v := .pointer (some ⟨f.blk, 0, none⟩)) 5 rfl (by kernel_rfl) rfl (by rintro _ rfl; exact (x_moveP rfl)) ?_
        refine RA.take (v := .pointer (some ⟨f.blk, 0, none⟩)) 6 rfl (by kernel_rfl) rfl (by rintro _ rfl; exact (x_nilCheck rfl)) ?_
        refine RA.take (v := .pointer (some ⟨f.blk, 1, none⟩)) 7 rfl (by kernel_rfl) rfl (by rintro _ rfl; exact (x_fld (o' := 1) Tryz.underlying90 rfl ty3 rfl rfl rfl)) ?_
        refine RA.take (v := .int .i64 (((f.synced : Nat) : Int))) 8 rfl (by kernel_rfl) rfl (by rintro _ rfl; exact (x_ld (v := .int .i64 (((f.synced : Nat) : Int))) ty3 rfl rfl (hb.cl.field (i := 1) rfl))) ?_
        refine RA.take (v := .int .i64 (((f.bytes.length : Nat) : Int) - ((f.synced : Nat) : Int))) 9 rfl (by kernel_rfl) rfl (by rintro _ rfl; exact (x_sub rfl rfl (by omega) (by omega))) ?_
        refine RA.take (v := .int .i64 (((f.bytes.length : Nat) : Int) - ((f.synced : Nat) : Int))) 10 rfl (by kernel_rfl) rfl (by rintro _ rfl; exact (x_assignI rfl)) ?_
        refine RA.done (by kernel_rfl) ?_
        refine Run.seq ?_
        refine Run.seq ?_
        refine Run.region ?_
        refine RL.val (x_moveB rfl) ?_
        refine RL.val (x_moveB rfl) ?_
        refine RL.gst (wantedF1 rfl rfl rfl rfl) <| St1.val (x_fld (o' := 1) Tryz.underlying98 rfl ty3 rfl rfl rfl) ?_
        refine RL.gst (wantedF1 rfl rfl rfl rfl) <| St1.val (x_ld (v := .int .i64 ((t).keep)) ty3 rfl rfl (hb_33.cl.field (i := 1) rfl)) ?_
        refine RL.gst (wantedF1 rfl rfl rfl rfl) <| St1.val (x_ltI rfl rfl) ?_
        refine RL.val (x_orF rfl rfl rfl) ?_
        refine RL.val (x_moveB rfl) ?_
        refine RL.gval (wantedF rfl rfl rfl rfl) (fun hg => (x_fld (o' := 1) Tryz.underlying98 rfl ty3 rfl rfl rfl)) ?_
        refine RL.gval (wantedF rfl rfl rfl rfl) (fun hg => (x_ld (v := .int .i64 ((t).keep)) ty3 (gvr hg) rfl (hb_33.cl.field (i := 1) rfl))) ?_
        refine RL.gval (wantedF rfl rfl rfl rfl) (fun hg => (x_moveI rfl)) ?_
        refine RL.gval (wantedF rfl rfl rfl rfl) (fun hg => (x_gtI (gvr hg) (gvr hg))) ?_
        refine RL.val (x_or rfl rfl rfl) ?_
        refine RL.val (x_moveB rfl) ?_
        refine RL.gval (wantedF rfl rfl rfl rfl) (fun hg => (x_fld (o' := 2) Tryz.underlying98 rfl ty32 rfl rfl rfl)) ?_
        refine RL.gval (wantedF rfl rfl rfl rfl) (fun hg => (x_ld (v := .slice ((t).junk.a) ((t).junk.len) ((t).junk.cap)) ty32 (gvr hg) rfl (hb_33.cl.field (i := 2) rfl))) ?_
        refine RL.gval (wantedF rfl rfl rfl rfl) (fun hg => (x_lenSl Tryz.underlying32 (gvr hg))) ?_
        refine RL.gval (wantedF rfl rfl rfl rfl) (fun hg => (x_moveI rfl)) ?_
        refine RL.gval (wantedF rfl rfl rfl rfl) (fun hg => (x_fld (o' := 1) Tryz.underlying98 rfl ty3 rfl rfl rfl)) ?_
        refine RL.gval (wantedF rfl rfl rfl rfl) (fun hg => (x_ld (v := .int .i64 ((t).keep)) ty3 (gvr hg) rfl (hb_33.cl.field (i := 1) rfl))) ?_
        refine RL.gval (wantedF rfl rfl rfl rfl) (fun hg => (x_sub (gvr hg) (gvr hg) (by simp only [br] at hg; omega) (by simp only [br] at hg; omega))) ?_
        refine RL.gval (wantedF rfl rfl rfl rfl) (fun hg => (x_gtI (gvr hg) (gvr hg))) ?_
        refine RL.val (x_or rfl rfl rfl) ?_
        refine RL.nil ?_
        refine Run.cond rfl (fun hc69 => ?_) (fun hc69 => ?_)
        · try simp only [br] at hc69
          refine Run.seq ?_
          refine Run.region ?_
          refine RL.val (x_assignM rfl) ?_
          refine RL.val (x_assignI rfl) ?_
          refine RL.nil ?_
          refine Run.ret2 (v := .map none) (x := .int .i64 (21)) Tryz.func56 rfl rfl rfl ?_
          have he := hti.tear hp (by rw [← htn]; exact hmay) (by rw [← htn]; exact lookP_in hnd hfs hfn) (.inr (tear_no (by show _ ∨ ((f.bytes.length : Nat) : Int) - (f.synced : Int) < _ ∨ ((f.bytes.length : Nat) : Int) - (f.synced : Int) - _ < _; rw [← htk, ← htl]; omega)))
          exact ⟨_, rfl, K0, .inl ⟨by rw [he]; decide, by rw [he]⟩⟩
        · try simp only [br] at hc69
          refine Run.skip ?_
          refine Run.drawT [19] (m := 20) (by kernel_rfl) rfl ?_
          intro w_55 K_56
          replace hB := hB.ext K_56
          replace hM := hM.ext K_56
          replace hF := hF.ext K_56
          replace hO_12 := hO_12.ext K_56
          replace hO_13 := hO_13.ext K_56
          replace hb_33 := hb_33.ext K_56
          replace hb := hb.ext K_56
          replace hsl := hsl.ext K_56
          replace K0 := K0.ext K_56
          refine ⟨fun w' => Blk w' b_30 [.string ((t).name), .int .i64 ((t).keep), .slice ((t).junk.a) ((t).junk.len) ((t).junk.cap)] 98 ∧ Blk w' f.blk [.slice (f.a) (f.bytes.length) (f.cap), .int .i64 (((f.synced : Nat) : Int))] 90 ∧ True, ?_⟩
          refine RT.takeP (v := .map (some m_1)) 0 rfl (by kernel_rfl) (.inr ⟨hb_33, hb, trivial⟩) (fun _ => (x_moveM rfl)) ?_
          refine RT.takeP (v := .pointer (some ⟨b_30, 0, none⟩)) 1 rfl (by kernel_rfl) (.inr ⟨hb_33, hb, trivial⟩) (fun _ => (x_fld (o' := 0) Tryz.underlying98 rfl ty9 rfl rfl rfl)) ?_
          refine RT.take (v := .string ((t).name)) 2 rfl (by kernel_rfl) ⟨hb_33, hb, trivial⟩ (by rintro _ ⟨hb_33, hb, -⟩; exact (x_ld (v := .string ((t).name)) ty9 rfl rfl (hb_33.cl.field (i := 0) rfl))) ?_
          refine RT.takeP (v := .pointer (some ⟨f.blk, 0, none⟩)) 3 rfl (by kernel_rfl) (.inr ⟨hb_33, hb, trivial⟩) (fun _ => (x_moveP rfl)) ?_
          refine RT.takeP (v := .pointer (some ⟨f.blk, 0, none⟩)) 4 rfl (by kernel_rfl) (.inr ⟨hb_33, hb, trivial⟩) (fun _ => (x_nilCheck rfl)) ?_
          refine RT.takeP (v := .pointer (some ⟨f.blk, 0, none⟩)) 5 rfl (by kernel_rfl) (.inr ⟨hb_33, hb, trivial⟩) (fun _ => (x_fld (o' := 0) Tryz.underlying90 rfl ty32 rfl rfl rfl)) ?_
          refine RT.take (v := .slice (f.a) (f.bytes.length) (f.cap)) 6 rfl (by kernel_rfl) ⟨hb_33, hb, trivial⟩ (by rintro _ ⟨hb_33, hb, -⟩; exact (x_ld (v := .slice (f.a) (f.bytes.length) (f.cap)) ty32 rfl rfl (hb.cl.field (i := 0) rfl))) ?_
          refine RT.takeP (v := .pointer (some ⟨f.blk, 0, none⟩)) 7 rfl (by kernel_rfl) (.inr ⟨hb_33, hb, trivial⟩) (fun _ => (x_moveP rfl)) ?_
          refine RT.takeP (v := .pointer (some ⟨f.blk, 0, none⟩)) 8 rfl (by kernel_rfl) (.inr ⟨hb_33, hb, trivial⟩) (fun _ => (x_nilCheck rfl)) ?_
          refine RT.takeP (v := .pointer (some ⟨f.blk, 1, none⟩)) 9 rfl (by kernel_rfl) (.inr ⟨hb_33, hb, trivial⟩) (fun _ => (x_fld (o' := 1) Tryz.underlying90 rfl ty3 rfl rfl rfl)) ?_
          refine RT.take (v := .int .i64 (((f.synced : Nat) : Int))) 10 rfl (by kernel_rfl) ⟨hb_33, hb, trivial⟩ (by rintro _ ⟨hb_33, hb, -⟩; exact (x_ld (v := .int .i64 (((f.synced : Nat) : Int))) ty3 rfl rfl (hb.cl.field (i := 1) rfl))) ?_
          refine RT.takeP (v := .pointer (some ⟨b_30, 1, none⟩)) 11 rfl (by kernel_rfl) (.inr ⟨hb_33, hb, trivial⟩) (fun _ => (x_fld (o' := 1) Tryz.underlying98 rfl ty3 rfl rfl rfl)) ?_
          refine RT.take (v := .int .i64 ((t).keep)) 12 rfl (by kernel_rfl) ⟨hb_33, hb, trivial⟩ (by rintro _ ⟨hb_33, hb, -⟩; exact (x_ld (v := .int .i64 ((t).keep)) ty3 rfl rfl (hb_33.cl.field (i := 1) rfl))) ?_
          refine RT.takeP (v := .int .i64 (((f.synced + p.keep.toNat : Nat) : Int))) 13 rfl (by kernel_rfl) (.inr ⟨hb_33, hb, trivial⟩) (fun _ => (litI (c := ((f.synced + p.keep.toNat : Nat) : Int)) (x_add rfl rfl (by omega) (by omega)) (by omega))) ?_
          refine RT.takeP (v := .slice (f.a) ((f.bytes.take (f.synced + p.keep.toNat)).length) (f.cap)) 14 rfl (by kernel_rfl) (.inr ⟨hb_33, hb, trivial⟩) (fun _ => (litSl (m' := (f.bytes.take (f.synced + p.keep.toNat)).length) (x_sliceTo Tryz.underlying32 ty5 rfl rfl (by omega)) (by rw [List.length_take]; omega))) ?_
          refine RT.takeP (v := .pointer (some ⟨b_30, 2, none⟩)) 15 rfl (by kernel_rfl) (.inr ⟨hb_33, hb, trivial⟩) (fun _ => (x_fld (o' := 2) Tryz.underlying98 rfl ty32 rfl rfl rfl)) ?_
          refine RT.take (v := .slice ((t).junk.a) ((t).junk.len) ((t).junk.cap)) 16 rfl (by kernel_rfl) ⟨hb_33, hb, trivial⟩ (by rintro _ ⟨hb_33, hb, -⟩; exact (x_ld (v := .slice ((t).junk.a) ((t).junk.len) ((t).junk.cap)) ty32 rfl rfl (hb_33.cl.field (i := 2) rfl))) ?_
          refine RT.st 17 rfl (by kernel_rfl) rfl <| St1.buildSlice ([⟨f.a, (f.bytes.take (f.synced + p.keep.toNat)).length, f.cap⟩, ⟨(t).junk.a, (t).junk.len, (t).junk.cap⟩] : List SH) Tryz.underlying22 ty32 rfl rfl (by first | decide | (simp [Enc.size])) ?_
          intro b_57 w_58 hl_61 ho_60 K_59
          have pr_62 : ¬ own (some ⟨b_57, 0, none⟩) d := notNew (ge_new hl_61) hB.lt
          have pr_63 : ∀ q_, own (some ⟨b_57, 0, none⟩) q_ → ¬ one m q_ := apartNew (ge_new hl_61) hM.own_lt
          have pr_64 : ∀ q_, own (some ⟨b_57, 0, none⟩) q_ → ¬ filesS fs q_ := apartNew (ge_new hl_61) hF.own_lt
          have pr_65 : ∀ q_, own (some ⟨b_57, 0, none⟩) q_ → ¬ one m_1 q_ := apartNew (ge_new hl_61) hO_12.own_lt
          have pr_66 : ∀ q_, own (some ⟨b_57, 0, none⟩) q_ → ¬ leftS ls q_ := apartNew (ge_new hl_61) hO_13.own_lt
          have pr_67 : ¬ own (some ⟨b_57, 0, none⟩) b_30 := notNew (ge_new hl_61) hb_33.lt
          have pr_68 : ¬ own (some ⟨b_57, 0, none⟩) f.blk := notNew (ge_new hl_61) hb.lt
          have pg_69 : ∀ q_, own (some ⟨b_57, 0, none⟩) q_ → w.heap.size ≤ q_ := fun q_ h => Nat.le_trans K0.size ((ge_new hl_61) q_ h)
          clear hl_61
          replace hB := hB.ext K_59
          replace hM := hM.ext K_59
          replace hF := hF.ext K_59
          replace hO_12 := hO_12.ext K_59
          replace hO_13 := hO_13.ext K_59
          replace hb_33 := hb_33.ext K_59
          replace hb := hb.ext K_59
          replace hsl := hsl.ext K_59
          replace K0 := K0.ext K_59
          refine ⟨.inr ⟨hb_33, hb, trivial⟩, ?_⟩
          refine RT.st 18 rfl (by kernel_rfl) rfl <| St1.call (vals := [.slice (some ⟨b_57, 0, none⟩) (([⟨f.a, (f.bytes.take (f.synced + p.keep.toNat)).length, f.cap⟩, ⟨(t).junk.a, (t).junk.len, (t).junk.cap⟩] : List SH).length) (([⟨f.a, (f.bytes.take (f.synced + p.keep.toNat)).length, f.cap⟩, ⟨(t).junk.a, (t).junk.len, (t).junk.cap⟩] : List SH).length)]) en86 rfl (concat2 _ _ _ [f.bytes.take (f.synced + p.keep.toNat), p.junk] (tornB f.p p) _ ho_60.sl (PartsAt.two (by rw [List.length_take]) (hsl.take _) htl (htj.ext K0)) (by simp) (by simp [tornB, FileS.p]) (by simp only [tornB, FileS.p, List.length_append, List.length_take]; omega)) ?_
          rintro _ w_72 ⟨a_70, c_71, rfl, ho_73, hg_74, K_75⟩
          have pr_76 : ¬ own a_70 d := notNew hg_74 hB.lt
          have pr_77 : ∀ q_, own a_70 q_ → ¬ one m q_ := apartNew hg_74 hM.own_lt
          have pr_78 : ∀ q_, own a_70 q_ → ¬ filesS fs q_ := apartNew hg_74 hF.own_lt
          have pr_79 : ∀ q_, own a_70 q_ → ¬ one m_1 q_ := apartNew hg_74 hO_12.own_lt
          have pr_80 : ∀ q_, own a_70 q_ → ¬ leftS ls q_ := apartNew hg_74 hO_13.own_lt
          have pr_81 : ¬ own a_70 b_30 := notNew hg_74 hb_33.lt
          have pr_82 : ¬ own a_70 f.blk := notNew hg_74 hb.lt
          have pr_83 : ∀ q_, own a_70 q_ → ¬ own (some ⟨b_57, 0, none⟩) q_ := apartNew hg_74 ho_60.own_lt
          have pg_84 : ∀ q_, own a_70 q_ → w.heap.size ≤ q_ := fun q_ h => Nat.le_trans K0.size (hg_74 q_ h)
          clear hg_74
          replace hB := hB.ext K_75
          replace hM := hM.ext K_75
          replace hF := hF.ext K_75
          replace hO_12 := hO_12.ext K_75
          replace hO_13 := hO_13.ext K_75
          replace hb_33 := hb_33.ext K_75
          replace hb := hb.ext K_75
          replace hsl := hsl.ext K_75
          replace ho_60 := ho_60.ext K_75
          replace K0 := K0.ext K_75
          refine ⟨.inr ⟨hb_33, hb, trivial⟩, ?_⟩
          refine RT.st 19 rfl (by kernel_rfl) rfl <| St1.mapUpdate (v := .slice (a_70) ((tornB f.p p).length) (c_71)) Tryz.underlying60 Tryz.underlying9 rfl rfl rfl rfl hO_12 ?_
          intro w_85 hM_86 K_87
          replace hM_86 : MapAt w_85 m_1 (lents (ls ++ [⟨t.name, a_70, c_71, tornB f.p p⟩])) := (lents_put hxno a_70 c_71 (tornB f.p p) ▸ hM_86)
          replace hB := hB.keep K_87 pr_14
          replace hM := hM.keepO K_87 (fun q_ h1 h2 => pr_15 q_ h2 h1)
          replace hF := hF.keepO K_87 (fun q_ h1 h2 => pr_16 q_ h2 h1)
          replace hO_13 := hO_13.keepO K_87 (fun q_ h1 h2 => pr_17 q_ h2 h1)
          replace hb_33 := hb_33.keep K_87 pr_39
          replace hb := hb.keep K_87 pr_51
          replace ho_60 := ho_60.keepO K_87 pr_65
          replace ho_73 := ho_73.keepO K_87 pr_79
          replace K0 := K0.new K_87 pr_18
          replace hO_12 := hM_86
          clear hM_86
          refine ⟨.inl (by kernel_rfl), ?_⟩
          refine RT.done (by kernel_rfl) ?_
          have hL' : LeftAt w_85 (ls ++ [⟨t.name, a_70, c_71, tornB f.p p⟩]) := LeftAt.snoc (x := ⟨t.name, a_70, c_71, tornB f.p p⟩) hO_13 ho_73 (fun q_ h1 h2 => (fun q_ h1 h2 => pr_80 q_ h2 h1) q_ h1 h2)
          have pr_88 : ¬ leftS (ls ++ [⟨t.name, a_70, c_71, tornB f.p p⟩]) d := fun x_ => (left_caseN _ x_).elim pr_76 (fun y_ => pr_19 y_)
          have pr_89 : ∀ q_, leftS (ls ++ [⟨t.name, a_70, c_71, tornB f.p p⟩]) q_ → ¬ one m q_ := fun q_ x_ z_ => (left_caseN _ x_).elim (fun y_ => pr_77 q_ y_ z_) (fun y_ => (fun y_ => pr_20 q_ y_ z_) y_)
          have pr_90 : ∀ q_, leftS (ls ++ [⟨t.name, a_70, c_71, tornB f.p p⟩]) q_ → ¬ filesS fs q_ := fun q_ x_ z_ => (left_caseN _ x_).elim (fun y_ => pr_78 q_ y_ z_) (fun y_ => (fun y_ => pr_21 q_ y_ z_) y_)
          have pr_91 : ∀ q_, leftS (ls ++ [⟨t.name, a_70, c_71, tornB f.p p⟩]) q_ → ¬ one m_1 q_ := fun q_ x_ z_ => (left_caseN _ x_).elim (fun y_ => pr_79 q_ y_ z_) (fun y_ => (fun y_ => (fun q_ h1 h2 => pr_17 q_ h2 h1) q_ y_ z_) y_)
          have pr_92 : ¬ leftS (ls ++ [⟨t.name, a_70, c_71, tornB f.p p⟩]) b_30 := fun x_ => (left_caseN _ x_).elim pr_81 (fun y_ => pr_40 y_)
          have pr_93 : ¬ leftS (ls ++ [⟨t.name, a_70, c_71, tornB f.p p⟩]) f.blk := fun x_ => (left_caseN _ x_).elim pr_82 (fun y_ => pr_52 y_)
          have pr_94 : ∀ q_, leftS (ls ++ [⟨t.name, a_70, c_71, tornB f.p p⟩]) q_ → ¬ own (some ⟨b_57, 0, none⟩) q_ := fun q_ x_ z_ => (left_caseN _ x_).elim (fun y_ => pr_83 q_ y_ z_) (fun y_ => (fun y_ => (fun q_ h1 h2 => pr_66 q_ h2 h1) q_ y_ z_) y_)
          have pg_95 : ∀ q_, leftS (ls ++ [⟨t.name, a_70, c_71, tornB f.p p⟩]) q_ → w.heap.size ≤ q_ := fun q_ x_ => (left_caseN _ x_).elim (fun y_ => pg_84 q_ y_) (fun y_ => (fun y_ => pr_22 q_ y_) y_)
          have hti' := hti.step' hp htn hmay (lookP_in hnd hfs hfn) hxno (tear_ok (by show _ ∧ _ ≤ ((f.bytes.length : Nat) : Int) - (f.synced : Int) ∧ _ ≤ ((f.bytes.length : Nat) : Int) - (f.synced : Int) - _; rw [← htk, ← htl]; omega)) a_70 c_71
          refine Run.inBlock ?_
          refine Run.region ?_
          refine RL.val (litI (c := ((i + 1 : Nat) : Int)) (x_add rfl rfl (by omega) (by omega)) rfl) ?_
          refine RL.val (x_moveI rfl) ?_
          refine RL.nil ?_
          refine ih1 (i + 1) _ _ ?_ (by omega)
          refine ⟨_, ⟨rfl, rfl, rfl, rfl, rfl, trivial⟩, K0, hB, hM, hF, hO_12, hL', pr_14, pr_15, pr_16, (fun q_ h1 h2 => pr_91 q_ h2 h1), pr_18, pr_88, pr_89, pr_90, pg_95, ?_, ?_⟩
          · omega
          · exact hti'
  · try simp only [br] at hc18
    refine Run.exit rfl ?_
    refine Run.seq ?_
    refine Run.region ?_
    refine RL.val (x_moveM rfl) ?_
    refine RL.val (x_assignM rfl) ?_
    refine RL.val (x_assignI rfl) ?_
    refine RL.nil ?_
    refine Run.ret2 (v := .map (some m_1)) (x := .int .i64 (0)) Tryz.func56 rfl rfl rfl ?_
    have hil : i = pts.length := by rw [← ht.len]; omega
    have he : tornE (fs.map FileS.p) pts [] = 0 := by rw [hti.err, hil, List.drop_length, tornE]
    have hle := hti.left
    rw [hil, List.take_length] at hle
    exact ⟨_, rfl, K0, .inr ⟨he, m_1, ls, rfl, hO_12, hO_13, hle, hti.nodup, (fun q_ h1 h2 => pr_17 q_ h2 h1), (pr_18 m_1 rfl), pr_22⟩⟩

end Go.Proofs.YtlhepanmdchjoaaGreatDoor
