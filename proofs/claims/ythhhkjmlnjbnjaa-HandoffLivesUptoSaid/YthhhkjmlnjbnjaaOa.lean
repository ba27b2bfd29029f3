/-
  Layer 18's things in memory, and plain models of what is done to a sender.
-/
import Derived.Test.YthhhkjmlnjbnjaaRows
import Derived.Test.YthhhkjmlnjbnjaaHv
import Derived.Test.YthhhkjmlnjbnjaaIface
import Derived.Test.YthhhkjmlnjbnjaaPlain
namespace Go.Proofs.Ythhhkjmlnjbnjaa
attribute [local irreducible] St1 RL RA RT RT1 Run
namespace Oa
theorem ty3 : Ty Try.prog 3 1 8 (.int .i64 (0)) false := ty_of (by kernel_rfl) (by kernel_rfl)
end Oa
open Oa
structure Item where
  key : ByteArray
  req : Int
  since : Int
instance : Enc Item := Enc.struct (fun t => [.string t.key, .int .i64 t.req, .int .i64 t.since]) 3 (fun _ => rfl) (fun _ v hv => by simp at hv; rcases hv with rfl | rfl | rfl <;> rfl) (by decide)
structure MoveC where
  part : Int
  frm : Int
  to : Int
instance : Enc MoveC := Enc.struct (fun t => [.int .i64 t.part, .int .i64 t.frm, .int .i64 t.to]) 3 (fun _ => rfl) (fun _ v hv => by simp at hv; rcases hv with rfl | rfl | rfl <;> rfl) (by decide)
theorem MoveC.ext' {a b : MoveC} (h0 : a.part = b.part) (h1 : a.frm = b.frm) (h2 : a.to = b.to) : a = b := by cases a; cases b; simp_all
instance : DecidableEq MoveC := fun a b => if h : a.part = b.part ∧ a.frm = b.frm ∧ a.to = b.to then isTrue (MoveC.ext' h.1 h.2.1 h.2.2) else isFalse (fun e => h (by subst e; exact ⟨rfl, rfl, rfl⟩))
set_option maxRecDepth 100000 in
theorem eq_MoveC (a b : MoveC) (w : World) : (Op.equalIn 10000 82 (.agg #[.int .i64 a.part, .int .i64 a.frm, .int .i64 a.to]) (.agg #[.int .i64 b.part, .int .i64 b.frm, .int .i64 b.to])).run Try.prog w = .ok (decide (a = b)) w := by
  have h := run_equalIn_struct (P := Try.prog) w 9999 82 #[.int .i64 a.part, .int .i64 a.frm, .int .i64 a.to] #[.int .i64 b.part, .int .i64 b.frm, .int .i64 b.to] Try.underlying82 (by kernel_rfl)
  have h2 := (run_eqFields_cons (P := Try.prog) (d := 9999) (xs := #[.int .i64 a.part, .int .i64 a.frm, .int .i64 a.to]) (ys := #[.int .i64 b.part, .int .i64 b.frm, .int .i64 b.to]) (fd := (Try.prog.fieldsOf 82).toList[0]) (fs := [(Try.prog.fieldsOf 82).toList[1], (Try.prog.fieldsOf 82).toList[2]]) (r := a.part == b.part) (by kernel_rfl) (run_part ty3 rfl) (run_part ty3 rfl) (fun w => run_equalIn_int w 9998 3 .i64 .i64 a.part b.part Try.underlying3) (run_eqFields_cons (P := Try.prog) (d := 9999) (xs := #[.int .i64 a.part, .int .i64 a.frm, .int .i64 a.to]) (ys := #[.int .i64 b.part, .int .i64 b.frm, .int .i64 b.to]) (fd := (Try.prog.fieldsOf 82).toList[1]) (fs := [(Try.prog.fieldsOf 82).toList[2]]) (r := a.frm == b.frm) (by kernel_rfl) (run_part ty3 rfl) (run_part ty3 rfl) (fun w => run_equalIn_int w 9998 3 .i64 .i64 a.frm b.frm Try.underlying3) (run_eqFields_cons (P := Try.prog) (d := 9999) (xs := #[.int .i64 a.part, .int .i64 a.frm, .int .i64 a.to]) (ys := #[.int .i64 b.part, .int .i64 b.frm, .int .i64 b.to]) (fd := (Try.prog.fieldsOf 82).toList[2]) (fs := []) (r := a.to == b.to) (by kernel_rfl) (run_part ty3 rfl) (run_part ty3 rfl) (fun w => run_equalIn_int w 9998 3 .i64 .i64 a.to b.to Try.underlying3) (run_eqFields_nil 9999 _ _)))) w
  refine h.trans (h2.trans ?_)
  congr 1
  rw [Bool.eq_iff_iff]
  simp only [Bool.and_eq_true, beq_iff_eq, and_true, decide_eq_true_eq, bytes_eq]
  exact ⟨fun h => MoveC.ext' h.1 h.2.1 h.2.2, fun h => by subst h; exact ⟨rfl, rfl, rfl⟩⟩

/-- a message of this layer: all else in it is nothing -/
structure HMsg where
  kind : Int
  frm : Int
  to : Int
  req : Int
  key : ByteArray
  part : Int
instance : Enc HMsg := Enc.struct (fun t => [.int .i64 t.kind, .int .i64 t.frm, .int .i64 t.to, .int .i64 t.req, .string t.key, .slice none 0 0, .slice none 0 0, .slice none 0 0, .int .i64 0, .int .i64 t.part, .int .i64 0,
  .int .i64 0, .int .i64 0, .int .i64 0, .slice none 0 0, .slice none 0 0, .slice none 0 0]) 17 (fun _ => rfl) (fun _ v hv => by simp at hv; rcases hv with rfl | rfl | rfl | rfl | rfl | rfl | rfl | rfl | rfl | rfl | rfl | rfl <;> rfl) (by decide)
theorem HMsg.ext' {a b : HMsg} (h0 : a.kind = b.kind) (h1 : a.frm = b.frm) (h2 : a.to = b.to) (h3 : a.req = b.req) (h4 : a.key = b.key) (h5 : a.part = b.part) : a = b := by cases a; cases b; simp_all
instance : DecidableEq HMsg := fun a b => if h : a.kind = b.kind ∧ a.frm = b.frm ∧ a.to = b.to ∧ a.req = b.req ∧ a.key = b.key ∧ a.part = b.part then isTrue (HMsg.ext' h.1 h.2.1 h.2.2.1 h.2.2.2.1 h.2.2.2.2.1 h.2.2.2.2.2) else isFalse (fun e => h (by subst e; exact ⟨rfl, rfl, rfl, rfl, rfl, rfl⟩))
/-! ### keys -/
def badByte (c : UInt8) : Bool := decide (¬ (97 ≤ (c.toNat : Int) ∧ (c.toNat : Int) ≤ 122) ∧ ¬ (65 ≤ (c.toNat : Int) ∧ (c.toNat : Int) ≤ 90) ∧ ¬ (48 ≤ (c.toNat : Int) ∧ (c.toNat : Int) ≤ 57) ∧ (c.toNat : Int) ≠ 46 ∧ (c.toNat : Int) ≠ 45 ∧ (c.toNat : Int) ≠ 95)
def isKey (s : ByteArray) : Bool := !(s.data.toList.any badByte) && (decide (1 ≤ (s.size : Int)) && decide ((s.size : Int) ≤ 32))
theorem keyEnd (s : ByteArray) : (!decide (s = ⟨#[]⟩) && decide ((s.size : Int) ≤ 32)) = (!false && (decide (1 ≤ (s.size : Int)) && decide ((s.size : Int) ≤ 32))) := by
  have e : (!decide (s = ⟨#[]⟩)) = decide (1 ≤ (s.size : Int)) := by
    rw [emptyS, Bool.eq_iff_iff]
    simp only [Bool.not_eq_true', decide_eq_false_iff_not, decide_eq_true_eq]
    omega
  rw [e]; rfl
/-! ### transfers in memory; α: a key that is left -/
structure PTr (α : Type) where
  part : Int
  to : Int
  left : List α
structure TrS (α : Type) where
  blk : Nat
  part : Int
  to : Int
  a : Option Addr
  cap : Nat
  left : List α
section
variable {α : Type} [Enc α]
def TrS.p (t : TrS α) : PTr α := ⟨t.part, t.to, t.left⟩
def TrS.ptr (t : TrS α) : Option Addr := some ⟨t.blk, 0, none⟩
def trS (t : TrS α) : Nat → Prop := fun q => q = t.blk ∨ own t.a q
def trsS (ts : List (TrS α)) : Nat → Prop := fun q => ∃ t ∈ ts, trS t q
def sndS (s : Nat) (al : Option Addr) (ts : List (TrS α)) : Nat → Prop := fun q => q = s ∨ (own al q ∨ trsS ts q)
structure TrAt (TT TI : TypeId) (w : World) (t : TrS α) : Prop where
  blk : Blk w t.blk [.int .i64 t.part, .int .i64 t.to, .slice t.a t.left.length t.cap] TT
  own : OwnSl w TI t.a t.cap t.left
  apart : ¬ Go.Proofs.Ythhhkjmlnjbnjaa.own t.a t.blk
structure TrsAt (TT TI : TypeId) (w : World) (ts : List (TrS α)) : Prop where
  all : ∀ t ∈ ts, TrAt TT TI w t
  apart : ts.Pairwise (fun f g => ∀ q, trS f q → ¬ trS g q)
variable {TT TI : TypeId} {w w' : World} {S : Nat → Prop} {t : TrS α} {ts l1 l2 : List (TrS α)} {s : Nat} {al : Option Addr}
theorem TrAt.lt (h : TrAt TT TI w t) : ∀ q, trS t q → q < w.heap.size := by
  rintro q (rfl | hq)
  · exact h.blk.lt
  · exact h.own.own_lt q hq
theorem TrAt.keepO (h : TrAt TT TI w t) (k : Keeps S w w') (hn : ∀ q, trS t q → ¬ S q) : TrAt TT TI w' t :=
  ⟨h.blk.keep k (hn _ (.inl rfl)), h.own.keepO k (fun q hq => hn q (.inr hq)), h.apart⟩
theorem TrsAt.own_lt (h : TrsAt TT TI w ts) : ∀ q, trsS ts q → q < w.heap.size := fun q ⟨f, hf, hq⟩ => (h.all f hf).lt q hq
theorem TrsAt.keepO (h : TrsAt TT TI w ts) (k : Keeps S w w') (hn : ∀ q, trsS ts q → ¬ S q) : TrsAt TT TI w' ts :=
  ⟨fun f hf => (h.all f hf).keepO k (fun q hq => hn q ⟨f, hf, hq⟩), h.apart⟩
theorem TrsAt.ext (h : TrsAt TT TI w ts) (k : Ext w w') : TrsAt TT TI w' ts := h.keepO k fun _ _ => id
theorem TrsAt.nil (TT TI : TypeId) (w : World) : TrsAt TT TI w ([] : List (TrS α)) := ⟨fun _ h => absurd h (by simp), List.Pairwise.nil⟩
omit [Enc α] in
theorem tr_symm (f g : TrS α) : (∀ q, trS f q → ¬ trS g q) ↔ (∀ q, trS g q → ¬ trS f q) := ⟨fun h q a b => h q b a, fun h q a b => h q b a⟩
theorem TrsAt.perm (h : TrsAt TT TI w ts) {gs : List (TrS α)} (p : ts.Perm gs) : TrsAt TT TI w gs :=
  ⟨fun f hf => h.all f (p.mem_iff.2 hf), (p.pairwise_iff (fun {a b} hab => (tr_symm a b).1 hab)).1 h.apart⟩
theorem TrsAt.open (h : TrsAt TT TI w (l1 ++ t :: l2)) : TrAt TT TI w t ∧ TrsAt TT TI w (l1 ++ l2) ∧ ∀ q, trsS (l1 ++ l2) q → ¬ trS t q := by
  have h' := h.perm List.perm_middle
  obtain ⟨h1, h2⟩ := List.pairwise_cons.1 h'.apart
  exact ⟨h'.all t (by simp), ⟨fun g hg => h'.all g (List.mem_cons_of_mem _ hg), h2⟩, fun q ⟨g, hg, hq⟩ hf => h1 g hg q hf hq⟩
theorem TrsAt.openE (h : TrsAt TT TI w ts) (e : ts = l1 ++ t :: l2) : TrAt TT TI w t ∧ TrsAt TT TI w (l1 ++ l2) ∧ ∀ q, trsS (l1 ++ l2) q → ¬ trS t q := by subst e; exact h.open
theorem TrsAt.close (h : TrAt TT TI w t) (h1 : TrsAt TT TI w (l1 ++ l2)) (h2 : ∀ q, trsS (l1 ++ l2) q → ¬ trS t q) : TrsAt TT TI w (l1 ++ t :: l2) := by
  refine TrsAt.perm (ts := t :: (l1 ++ l2)) ⟨?_, List.pairwise_cons.2 ⟨fun g hg q hf hq => h2 q ⟨g, hg, hq⟩ hf, h1.apart⟩⟩ List.perm_middle.symm
  intro g hg
  rcases List.mem_cons.1 hg with rfl | hg
  · exact h
  · exact h1.all g hg
theorem TrsAt.snoc (h : TrAt TT TI w t) (h1 : TrsAt TT TI w ts) (h2 : ∀ q, trsS ts q → ¬ trS t q) : TrsAt TT TI w (ts ++ [t]) := TrsAt.close (l2 := []) h (by rwa [List.append_nil]) (by rwa [List.append_nil])
omit [Enc α] in
theorem trsS_mid {q : Nat} : trsS (l1 ++ t :: l2) q ↔ trS t q ∨ trsS (l1 ++ l2) q := by
  simp only [trsS, List.mem_append, List.mem_cons]
  constructor
  · rintro ⟨g, h, hq⟩
    rcases h with h | h | h
    · exact .inr ⟨g, .inl h, hq⟩
    · subst h; exact .inl hq
    · exact .inr ⟨g, .inr h, hq⟩
  · rintro (hq | ⟨g, h | h, hq⟩)
    · exact ⟨t, .inr (.inl rfl), hq⟩
    · exact ⟨g, .inl h, hq⟩
    · exact ⟨g, .inr (.inr h), hq⟩
omit [Enc α] in
theorem trs_case {b : Nat} {p o : Int} {a : Option Addr} {c : Nat} {l : List α} : ∀ q, trsS (l1 ++ ⟨b, p, o, a, c, l⟩ :: l2) q → q = b ∨ (own a q ∨ trsS (l1 ++ l2) q) := fun q h => by
  rcases trsS_mid.1 h with (h | h) | h
  · exact .inl h
  · exact .inr (.inl h)
  · exact .inr (.inr h)
omit [Enc α] in
theorem trs_end {b : Nat} {p o : Int} {a : Option Addr} {c : Nat} {l : List α} : ∀ q, trsS (ts ++ [⟨b, p, o, a, c, l⟩]) q → q = b ∨ (own a q ∨ trsS ts q) := fun q h => by
  have := trs_case (l2 := []) q h; rwa [List.append_nil] at this
omit [Enc α] in
theorem trs_subB (e : ts = l1 ++ t :: l2) : trsS ts t.blk := by subst e; exact trsS_mid.2 (.inl (.inl rfl))
omit [Enc α] in
theorem trs_subO (e : ts = l1 ++ t :: l2) : ∀ q, own t.a q → trsS ts q := by subst e; exact fun q h => trsS_mid.2 (.inl (.inr h))
omit [Enc α] in
theorem trs_subR (e : ts = l1 ++ t :: l2) : ∀ q, trsS (l1 ++ l2) q → trsS ts q := by subst e; exact fun q h => trsS_mid.2 (.inr h)
omit [Enc α] in
theorem ptr_get {i : Nat} {a : Option Addr} (h : (ts.map TrS.ptr)[i]? = some a) : ∃ t l1 l2, ts = l1 ++ t :: l2 ∧ l1.length = i ∧ ts[i]? = some t ∧ a = some ⟨t.blk, 0, none⟩ := by
  rw [List.getElem?_map, Option.map_eq_some_iff] at h
  obtain ⟨t, ht, e⟩ := h
  obtain ⟨hi, rfl⟩ := List.getElem?_eq_some_iff.1 ht
  exact ⟨ts[i], ts.take i, ts.drop (i + 1), by rw [← List.drop_eq_getElem_cons hi, List.take_append_drop], by rw [List.length_take]; omega, ht, e.symm⟩
end
/-! ### plain -/
section
variable {α : Type}
def sameT (part to : Int) (t : PTr α) : Bool := decide (t.part = part) && decide (t.to = to)
def doneB (pl : List (PTr α)) (part to : Int) : Bool := match pl.find? (sameT part to) with | some t => t.left.isEmpty | none => false
def leftN (pl : List (PTr α)) (part to : Int) : Nat := match pl.find? (sameT part to) with | some t => t.left.length | none => 0
def openL (self : Int) (pl : List (PTr α)) : List MoveC := (pl.filter (fun t => !t.left.isEmpty)).map (fun t => ⟨t.part, self, t.to⟩)
def mayE (self part to : Int) : Int := if (((part < 0 ∨ 64 ≤ part) ∨ to < 0) ∨ 8 ≤ to) ∨ to = self then 1 else 0
def delI (l : List α) (k : Nat) : List α := l.take k ++ l.drop (k + 1)
def without (pl : List (PTr α)) (part to : Int) : List (PTr α) := match pl.findIdx? (sameT part to) with | some i => delI pl i | none => pl
def canE (self : Int) (pl : List (PTr α)) (part to : Int) : Int := if mayE self part to = 0 then (if leftN pl part to = 0 then 180 else 0) else 1
def canL (self : Int) (pl : List (PTr α)) (part to : Int) : List (PTr α) := if canE self pl part to = 0 then without pl part to else pl
def begE (self : Int) (pl : List (PTr α)) (part to : Int) (keys : List ByteArray) : Int := if mayE self part to = 0 then (if keys.any (fun k => !isKey k) then 6 else if leftN pl part to = 0 then 0 else 61) else 1
def begL (self : Int) (pl : List (PTr α)) (part to : Int) (keys : List ByteArray) (left : List α) : List (PTr α) := if begE self pl part to keys = 0 then without pl part to ++ [⟨part, to, left⟩] else pl
end
/-- a list with each run of equals made one -/
def uqStep (s : List ByteArray) (x : ByteArray) : List ByteArray := if s.getLast? = some x then s else s ++ [x]
def uniq (l : List ByteArray) : List ByteArray := l.foldl uqStep []
def newI (keys : List ByteArray) : List Item := keys.map fun k => ⟨k, 0, -1⟩
def ageI (now : Int) (x : Item) : Item := if 0 ≤ x.since ∧ 1000 ≤ now - x.since then ⟨x.key, x.req, -1⟩ else x
def sentI (x : Item) : Bool := decide (0 ≤ x.since)
/-- what a telling has come to -/
structure Sd where
  c : Nat
  r : Int
  L : List Item
  T : List Item
def sdStep (now : Int) (s : Sd) (x : Item) : Sd := if 0 ≤ x.since ∨ 4 ≤ s.c then ⟨s.c, s.r, s.L ++ [x], s.T⟩ else ⟨s.c + 1, s.r + 1, s.L ++ [⟨x.key, s.r + 1, now⟩], s.T ++ [⟨x.key, s.r + 1, now⟩]⟩
def sdI (now : Int) (w : Nat) (r : Int) (l : List Item) (i : Nat) : Sd := (l.take i).foldl (sdStep now) ⟨w, r, [], []⟩
def agedL (now : Int) (l : List Item) : List Item := l.map (ageI now)
def tellP (now r : Int) (l : List Item) : Sd := sdI now ((agedL now l).countP sentI) r (agedL now l) l.length
def msgH (self to part : Int) (x : Item) : HMsg := ⟨10, self, to, x.req, x.key, part⟩
/-- what the telling of one transfer behind the other has come to -/
structure Tk where
  r : Int
  L : List (PTr Item)
  T : List HMsg
def tkStep (self now : Int) (s : Tk) (t : PTr Item) : Tk := ⟨(tellP now s.r t.left).r, s.L ++ [⟨t.part, t.to, (tellP now s.r t.left).L⟩], s.T ++ (tellP now s.r t.left).T.map (msgH self t.to t.part)⟩
def tkI (self now r : Int) (pl : List (PTr Item)) (i : Nat) : Tk := (pl.take i).foldl (tkStep self now) ⟨r, [], []⟩
def tickP (self now r : Int) (pl : List (PTr Item)) : Tk := tkI self now r pl pl.length
def ackI (key : ByteArray) (req : Int) (x : Item) : Bool := (decide (x.key = key) && decide (0 ≤ x.since)) && decide (x.req = req)
/-- On, for a message that is handed: the transfer's place, and what is told -/
def onP (self now r : Int) (pl : List (PTr Item)) (m : HMsg) : Tk :=
  if m.kind = 11 then (match pl.findIdx? (sameT m.part m.frm) with
    | some i => (match pl[i]? with
      | some t => (match t.left.findIdx? (ackI m.key m.req) with
        | some k => ⟨(tellP now r (delI t.left k)).r, pl.set i ⟨t.part, t.to, (tellP now r (delI t.left k)).L⟩, (tellP now r (delI t.left k)).T.map (msgH self t.to t.part)⟩
        | none => ⟨r, pl, []⟩)
      | none => ⟨r, pl, []⟩)
    | none => ⟨r, pl, []⟩) else ⟨r, pl, []⟩
/-! ### what a telling keeps -/
section
variable {now r : Int} {w i : Nat} {l : List Item} {x : Item} {self : Int} {pl : List (PTr Item)} {t : PTr Item}
theorem take_snoc' {α : Type} {l : List α} {i : Nat} {x : α} (h : l[i]? = some x) : l.take (i + 1) = l.take i ++ [x] := by
  obtain ⟨hi, rfl⟩ := List.getElem?_eq_some_iff.1 h; exact List.take_succ_eq_append_getElem hi
theorem sdI_zero : sdI now w r l 0 = ⟨w, r, [], []⟩ := rfl
theorem sdI_succ (h : l[i]? = some x) : sdI now w r l (i + 1) = sdStep now (sdI now w r l i) x := by rw [sdI, take_snoc' h, List.foldl_append]; rfl
theorem sdI_len : ∀ i, i ≤ l.length → (sdI now w r l i).L.length = i
  | 0, _ => rfl
  | i + 1, h => by
    have hx : l[i]? = some l[i] := List.getElem?_eq_getElem (by omega)
    rw [sdI_succ hx, sdStep]
    have := sdI_len i (by omega)
    split <;> simp [this]
theorem sdI_T : ∀ i, i ≤ l.length → (sdI now w r l i).T.length + w = (sdI now w r l i).c ∧ (sdI now w r l i).r = r + (sdI now w r l i).T.length ∧ ((sdI now w r l i).c ≤ 4 ∨ (sdI now w r l i).c = w)
  | 0, _ => ⟨Nat.zero_add _, by show r = r + ((0 : Nat) : Int); omega, .inr rfl⟩
  | i + 1, h => by
    have hx : l[i]? = some l[i] := List.getElem?_eq_getElem (by omega)
    obtain ⟨h1, h2, h3⟩ := sdI_T i (by omega)
    rw [sdI_succ hx, sdStep]
    split
    · exact ⟨h1, h2, h3⟩
    · rename_i hc
      simp only [List.length_append, List.length_singleton]
      omega
theorem tkI_zero : tkI self now r pl 0 = ⟨r, [], []⟩ := rfl
theorem tkI_succ (h : pl[i]? = some t) : tkI self now r pl (i + 1) = tkStep self now (tkI self now r pl i) t := by rw [tkI, take_snoc' h, List.foldl_append]; rfl
theorem tellP_T : (tellP now r l).T.length ≤ 4 ∧ (tellP now r l).r = r + (tellP now r l).T.length := by
  obtain ⟨h1, h2, h3⟩ := sdI_T (now := now) (w := (agedL now l).countP sentI) (r := r) (l := agedL now l) l.length (by simp [agedL])
  refine ⟨?_, h2⟩
  rw [tellP]
  omega
theorem tellP_L : (tellP now r l).L.length = l.length := sdI_len _ (by simp [agedL])
theorem tkI_r : ∀ i, i ≤ pl.length → r ≤ (tkI self now r pl i).r ∧ (tkI self now r pl i).r ≤ r + 4 * (i : Int) ∧ (tkI self now r pl i).T.length ≤ 4 * i ∧ (tkI self now r pl i).L.length = i
  | 0, _ => ⟨Int.le_refl _, by show r ≤ r + 4 * ((0 : Nat) : Int); omega, Nat.zero_le _, rfl⟩
  | i + 1, h => by
    have hx : pl[i]? = some pl[i] := List.getElem?_eq_getElem (by omega)
    obtain ⟨h1, h2, h3, h4⟩ := tkI_r i (by omega)
    rw [tkI_succ hx, tkStep]
    obtain ⟨q1, q2⟩ := tellP_T (now := now) (r := (tkI self now r pl i).r) (l := pl[i].left)
    simp only [List.length_append, List.length_singleton, List.length_map]
    omega
/-- keys that may be, times that are past -/
def ItOk (now : Int) (x : Item) : Prop := x.key.size ≤ 32 ∧ -1 ≤ x.since ∧ x.since ≤ now
def LOk (now : Int) (l : List Item) : Prop := ∀ x ∈ l, ItOk now x
theorem LOk.aged (h : LOk now l) : LOk now (agedL now l) := fun x hx => by
  obtain ⟨y, hy, rfl⟩ := List.mem_map.1 hx
  have := h y hy
  unfold ageI
  split
  · exact ⟨this.1, Int.le_refl _, by show (-1 : Int) ≤ now; have := this.2; omega⟩
  · exact this
theorem LOk.sd (h : LOk now l) (h0 : 0 ≤ now) : ∀ i, i ≤ l.length → LOk now (sdI now w r l i).L
  | 0, _ => fun x hx => absurd hx (by simp [sdI_zero])
  | i + 1, hi => by
    have hx : l[i]? = some l[i] := List.getElem?_eq_getElem (by omega)
    have ih := LOk.sd h h0 i (by omega)
    rw [sdI_succ hx, sdStep]
    have hl := h l[i] (List.getElem_mem _)
    split
    · intro y hy
      rcases List.mem_append.1 hy with hy | hy
      · exact ih y hy
      · simp only [List.mem_singleton] at hy; subst hy; exact hl
    · intro y hy
      rcases List.mem_append.1 hy with hy | hy
      · exact ih y hy
      · simp only [List.mem_singleton] at hy; subst hy; exact ⟨hl.1, by show -1 ≤ now; omega, Int.le_refl _⟩
theorem LOk.tell (h : LOk now l) (h0 : 0 ≤ now) : LOk now (tellP now r l).L := h.aged.sd h0 _ (by simp [agedL])
theorem LOk.mono {now' : Int} (h : LOk now l) (hn : now ≤ now') : LOk now' l := fun x hx => ⟨(h x hx).1, (h x hx).2.1, by have := (h x hx).2.2; omega⟩
theorem mem_del {α : Type} {l : List α} {k : Nat} {x : α} (h : x ∈ delI l k) : x ∈ l := by
  rcases List.mem_append.1 h with h | h
  · exact List.mem_of_mem_take h
  · exact List.mem_of_mem_drop h
theorem LOk.del (h : LOk now l) (k : Nat) : LOk now (delI l k) := fun x hx => h x (mem_del hx)
/-- what is always so of a sender -/
structure SOk (me now : Int) (pl : List (PTr Item)) : Prop where
  self0 : 0 ≤ me ∧ me < 8
  now0 : 0 ≤ now ∧ now ≤ 9223372036854775807
  all : ∀ t ∈ pl, LOk now t.left ∧ t.left.length ≤ 4294967295
theorem SOk.mono {now' : Int} (h : SOk self now pl) (hn : now ≤ now') (hm : now' ≤ 9223372036854775807) : SOk self now' pl := ⟨h.self0, by have := h.now0; omega, fun t ht => ⟨(h.all t ht).1.mono hn, (h.all t ht).2⟩⟩
theorem SOk.tk (h : SOk self now pl) : ∀ i, i ≤ pl.length → ∀ t ∈ (tkI self now r pl i).L, LOk now t.left ∧ t.left.length ≤ 4294967295
  | 0, _ => fun x hx => absurd hx (by simp [tkI_zero])
  | i + 1, hi => by
    have hx : pl[i]? = some pl[i] := List.getElem?_eq_getElem (by omega)
    have ih := SOk.tk h i (by omega)
    rw [tkI_succ hx, tkStep]
    have hl := h.all pl[i] (List.getElem_mem _)
    intro y hy
    rcases List.mem_append.1 hy with hy | hy
    · exact ih y hy
    · simp only [List.mem_singleton] at hy; subst hy; exact ⟨hl.1.tell h.now0.1, by show (tellP _ _ _).L.length ≤ _; rw [tellP_L]; exact hl.2⟩
theorem SOk.tick (h : SOk self now pl) : SOk self now (tickP self now r pl).L := ⟨h.self0, h.now0, h.tk _ (Nat.le_refl _)⟩
end
/-! ### a sender -/
structure SndO (w : World) (s : Nat) (al : Option Addr) (cl : Nat) (me now req : Int) (ts : List (TrS Item)) : Prop where
  blk : Blk w s [.bool true, .int .i64 me, .int .i64 now, .int .i64 req, .slice al (ts.map TrS.ptr).length cl] 60
  own : OwnSl w 90 al cl (ts.map TrS.ptr)
  trs : TrsAt 89 97 w ts
  os : ¬ Go.Proofs.Ythhhkjmlnjbnjaa.own al s
  tss : ¬ trsS ts s
  to : ∀ q, trsS ts q → ¬ Go.Proofs.Ythhhkjmlnjbnjaa.own al q
  ok : SOk me now (ts.map TrS.p)
/-- a sender: where its blocks lie, and what it has -/
def SndAt (w : World) (s : Nat) (F : Nat → Prop) (self now req : Int) (pl : List (PTr Item)) : Prop := ∃ al cl ts, F = sndS s al ts ∧ pl = ts.map TrS.p ∧ SndO w s al cl self now req ts
section
variable {w w' : World} {S F : Nat → Prop} {s : Nat} {al : Option Addr} {cl : Nat} {self now req : Int} {ts : List (TrS Item)} {pl : List (PTr Item)}
theorem SndO.own_lt (h : SndO w s al cl self now req ts) : ∀ q, sndS s al ts q → q < w.heap.size := by
  rintro q (rfl | hq | hq)
  · exact h.blk.lt
  · exact h.own.own_lt q hq
  · exact h.trs.own_lt q hq
theorem SndO.keepO (h : SndO w s al cl self now req ts) (k : Keeps S w w') (hn : ∀ q, sndS s al ts q → ¬ S q) : SndO w' s al cl self now req ts :=
  ⟨h.blk.keep k (hn _ (.inl rfl)), h.own.keepO k (fun q hq => hn q (.inr (.inl hq))), h.trs.keepO k (fun q hq => hn q (.inr (.inr hq))), h.os, h.tss, h.to, h.ok⟩
theorem SndAt.own_lt (h : SndAt w s F self now req pl) : ∀ q, F q → q < w.heap.size := by obtain ⟨al, cl, ts, rfl, rfl, h⟩ := h; exact h.own_lt
theorem SndAt.keepO (h : SndAt w s F self now req pl) (k : Keeps S w w') (hn : ∀ q, F q → ¬ S q) : SndAt w' s F self now req pl := by obtain ⟨al, cl, ts, rfl, rfl, h⟩ := h; exact ⟨al, cl, ts, rfl, rfl, h.keepO k hn⟩
theorem SndAt.ext (h : SndAt w s F self now req pl) (k : Ext w w') : SndAt w' s F self now req pl := h.keepO k fun _ _ => id
theorem SndAt.ok (h : SndAt w s F self now req pl) : SOk self now pl := by obtain ⟨al, cl, ts, rfl, rfl, h⟩ := h; exact h.ok
theorem ptr_len (ts : List (TrS Item)) : (ts.map TrS.ptr).length = ts.length := List.length_map ..
theorem p_get {i : Nat} {t : TrS Item} (h : ts[i]? = some t) : (ts.map TrS.p)[i]? = some t.p := by rw [List.getElem?_map, h]; rfl
theorem SOk.at {t : TrS Item} (h : SOk self now (ts.map TrS.p)) (ht : t ∈ ts) : LOk now t.left ∧ t.left.length ≤ 4294967295 := h.all t.p (List.mem_map.2 ⟨t, ht, rfl⟩)
end

theorem ty3 : Ty Try.prog 3 1 8 (.int .i64 (0)) false := ty_of (by kernel_rfl) (by kernel_rfl)


end Go.Proofs.Ythhhkjmlnjbnjaa
