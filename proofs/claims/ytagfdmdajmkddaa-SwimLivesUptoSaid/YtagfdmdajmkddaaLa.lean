/-
  Layer 12's things as cells, and what its calls come to, in plain Lean.
-/
import Derived.Test.YtagfdmdajmkddaaRows
import Derived.Test.YtagfdmdajmkddaaSeg
import Derived.Test.YtagfdmdajmkddaaPlain
namespace Go.Proofs.Ytagfdmdajmkddaa
attribute [local irreducible] St1 RL RA RT RT1 Run
namespace Sa
theorem ty3 : Ty Try.prog 3 1 8 (.int .i64 (0)) false := ty_of (by kernel_rfl) (by kernel_rfl)
end Sa
open Sa
structure Peer where
  node : Int
  inc : Int
  status : Int
instance : Enc Peer := Enc.struct (fun t => [.int .i64 t.node, .int .i64 t.inc, .int .i64 t.status]) 3 (fun _ => rfl) (fun _ v hv => by simp at hv; rcases hv with rfl | rfl | rfl <;> rfl) (by decide)
theorem Peer.ext' {a b : Peer} (h0 : a.node = b.node) (h1 : a.inc = b.inc) (h2 : a.status = b.status) : a = b := by cases a; cases b; simp_all
instance : DecidableEq Peer := fun a b => if h : a.node = b.node ∧ a.inc = b.inc ∧ a.status = b.status then isTrue (Peer.ext' h.1 h.2.1 h.2.2) else isFalse (fun e => h (by subst e; exact ⟨rfl, rfl, rfl⟩))
set_option maxRecDepth 100000 in
theorem eq_Peer (a b : Peer) (w : World) : (Op.equalIn 10000 23 (.agg #[.int .i64 a.node, .int .i64 a.inc, .int .i64 a.status]) (.agg #[.int .i64 b.node, .int .i64 b.inc, .int .i64 b.status])).run Try.prog w = .ok (decide (a = b)) w := by
  have h := run_equalIn_struct (P := Try.prog) w 9999 23 #[.int .i64 a.node, .int .i64 a.inc, .int .i64 a.status] #[.int .i64 b.node, .int .i64 b.inc, .int .i64 b.status] Try.underlying23 (by kernel_rfl)
  have h2 := (run_eqFields_cons (P := Try.prog) (d := 9999) (xs := #[.int .i64 a.node, .int .i64 a.inc, .int .i64 a.status]) (ys := #[.int .i64 b.node, .int .i64 b.inc, .int .i64 b.status]) (fd := (Try.prog.fieldsOf 23).toList[0]) (fs := [(Try.prog.fieldsOf 23).toList[1], (Try.prog.fieldsOf 23).toList[2]]) (r := a.node == b.node) (by kernel_rfl) (run_part ty3 rfl) (run_part ty3 rfl) (fun w => run_equalIn_int w 9998 3 .i64 .i64 a.node b.node Try.underlying3) (run_eqFields_cons (P := Try.prog) (d := 9999) (xs := #[.int .i64 a.node, .int .i64 a.inc, .int .i64 a.status]) (ys := #[.int .i64 b.node, .int .i64 b.inc, .int .i64 b.status]) (fd := (Try.prog.fieldsOf 23).toList[1]) (fs := [(Try.prog.fieldsOf 23).toList[2]]) (r := a.inc == b.inc) (by kernel_rfl) (run_part ty3 rfl) (run_part ty3 rfl) (fun w => run_equalIn_int w 9998 3 .i64 .i64 a.inc b.inc Try.underlying3) (run_eqFields_cons (P := Try.prog) (d := 9999) (xs := #[.int .i64 a.node, .int .i64 a.inc, .int .i64 a.status]) (ys := #[.int .i64 b.node, .int .i64 b.inc, .int .i64 b.status]) (fd := (Try.prog.fieldsOf 23).toList[2]) (fs := []) (r := a.status == b.status) (by kernel_rfl) (run_part ty3 rfl) (run_part ty3 rfl) (fun w => run_equalIn_int w 9998 3 .i64 .i64 a.status b.status Try.underlying3) (run_eqFields_nil 9999 _ _)))) w
  refine h.trans (h2.trans ?_)
  congr 1
  rw [Bool.eq_iff_iff]
  simp only [Bool.and_eq_true, beq_iff_eq, and_true, decide_eq_true_eq, bytes_eq]
  exact ⟨fun h => Peer.ext' h.1 h.2.1 h.2.2, fun h => by subst h; exact ⟨rfl, rfl, rfl⟩⟩
structure KnownM where
  peer : Peer
  since : Int
instance : Enc KnownM := Enc.struct (fun t => [.int .i64 t.peer.node, .int .i64 t.peer.inc, .int .i64 t.peer.status, .int .i64 t.since]) 4 (fun _ => rfl) (fun _ v hv => by simp at hv; rcases hv with rfl | rfl | rfl | rfl <;> rfl) (by decide)
structure Ping where
  target : Int
  req : Int
  since : Int
  others : Bool
instance : Enc Ping := Enc.struct (fun t => [.int .i64 t.target, .int .i64 t.req, .int .i64 t.since, .bool t.others]) 4 (fun _ => rfl) (fun _ v hv => by simp at hv; rcases hv with rfl | rfl | rfl | rfl <;> rfl) (by decide)

structure MsgC where
  kind : Int
  frm : Int
  to : Int
  req : Int
  key : ByteArray
  entries : SH
  marks : SH
  cloud : SH
  owner : Int
  part : Int
  n : Int
  rparts : Int
  rcopies : Int
  rspots : Int
  members : SH
  peers : SH
  sums : SH
def shV (s : SH) : Value := .slice s.a s.len s.cap
instance : Enc MsgC := Enc.struct (fun t => [.int .i64 t.kind, .int .i64 t.frm, .int .i64 t.to, .int .i64 t.req, .string t.key, .slice t.entries.a t.entries.len t.entries.cap, .slice t.marks.a t.marks.len t.marks.cap, .slice t.cloud.a t.cloud.len t.cloud.cap, .int .i64 t.owner, .int .i64 t.part, .int .i64 t.n,
  .int .i64 t.rparts, .int .i64 t.rcopies, .int .i64 t.rspots, .slice t.members.a t.members.len t.members.cap, .slice t.peers.a t.peers.len t.peers.cap, .slice t.sums.a t.sums.len t.sums.cap]) 17 (fun _ => rfl) (fun _ v hv => by simp at hv; rcases hv with rfl | rfl | rfl | rfl | rfl | rfl | rfl | rfl | rfl | rfl | rfl | rfl | rfl | rfl | rfl | rfl | rfl <;> rfl) (by decide)
def sh0 : SH := ⟨none, 0, 0⟩
/-- a ping or a pong -/
def mkMsg (kind frm to req owner n : Int) : MsgC := ⟨kind, frm, to, req, ⟨#[]⟩, ⟨none, 0, 0⟩, ⟨none, 0, 0⟩, ⟨none, 0, 0⟩, owner, 0, n, 0, 0, 0, ⟨none, 0, 0⟩, ⟨none, 0, 0⟩, ⟨none, 0, 0⟩⟩
structure Tab where
  self : Int
  now : Int
  l : List KnownM
  pings : List Ping
  req : Int
  begun : Bool
  last : Int
  target : Int
def tabCells (T : Tab) (al : Option Addr) (cl : Nat) : List Value :=
  ([.bool true, .int .i64 T.self, .int .i64 T.now] : List Value) ++ flat T.l ++ ([.slice al T.pings.length cl, .int .i64 T.req, .bool T.begun, .int .i64 T.last, .int .i64 T.target] : List Value)
/-- what is always so of a table -/
structure TabOk (T : Tab) : Prop where
  len : T.l.length = 8
  self0 : 0 ≤ T.self ∧ T.self < 8
  now0 : 0 ≤ T.now ∧ T.now ≤ 9223372036854775807
  known : ∀ (n : Nat) k, T.l[n]? = some k → 0 ≤ k.since ∧ k.since ≤ T.now ∧ (k.peer.status ≠ 0 → k.peer.node = (n : Int))
  pings : ∀ p ∈ T.pings, 0 ≤ p.target ∧ p.target < 8 ∧ 0 ≤ p.since ∧ p.since ≤ T.now
  req0 : 0 ≤ T.req ∧ T.req ≤ 1099511627776
  last0 : 0 ≤ T.last ∧ T.last ≤ T.now
structure TabAt (w : World) (b : Nat) (al : Option Addr) (cl : Nat) (T : Tab) : Prop where
  blk : Blk w b (tabCells T al cl) 71
  own : OwnSl w 107 al cl T.pings
  ap : ¬ Go.Proofs.Ytagfdmdajmkddaa.own al b
  ok : TabOk T
def tabS (b : Nat) (al : Option Addr) : Nat → Prop := fun x => x = b ∨ own al x
theorem TabAt.keepO {S : Nat → Prop} {w w' : World} {b : Nat} {al : Option Addr} {cl : Nat} {T : Tab} (h : TabAt w b al cl T) (k : Keeps S w w') (hn : ∀ x, tabS b al x → ¬ S x) : TabAt w' b al cl T :=
  ⟨h.blk.keep k (hn _ (.inl rfl)), h.own.keepO k (fun _ hx => hn _ (.inr hx)), h.ap, h.ok⟩
theorem TabAt.ext {w w' : World} {b : Nat} {al : Option Addr} {cl : Nat} {T : Tab} (h : TabAt w b al cl T) (k : Ext w w') : TabAt w' b al cl T := h.keepO k fun _ _ => id
theorem TabAt.own_lt {w : World} {b : Nat} {al : Option Addr} {cl : Nat} {T : Tab} (h : TabAt w b al cl T) : ∀ x, tabS b al x → x < w.heap.size := by
  rintro x (rfl | hx)
  · exact h.blk.lt
  · exact h.own.own_lt x hx
theorem tabMoved' {w : World} {b : Nat} {al al' : Option Addr} (h : ∀ x, own al' x → x < w.heap.size → tabS b al x) : MovedS w (tabS b al) (tabS b al') := by
  rintro x (rfl | hx)
  · exact .inl (.inl rfl)
  · by_cases hl : x < w.heap.size
    · exact .inl (h x hx hl)
    · exact .inr (by omega)
theorem tabS_new {N b : Nat} (h : N ≤ b) : ∀ q, tabS b none q → N ≤ q := by
  rintro q (rfl | hq)
  · exact h
  · exact absurd hq (own_none q)

/-! ### loops, in plain Lean -/
section
variable {σ α : Type}
def tf (f : σ → α → σ) (s : σ) (l : List α) (i : Nat) : σ := (l.take i).foldl f s
theorem tf_zero (f : σ → α → σ) (s : σ) (l : List α) : tf f s l 0 = s := by simp [tf]
theorem tf_succ {f : σ → α → σ} {s : σ} {l : List α} {i : Nat} {x : α} (h : l[i]? = some x) : tf f s l (i + 1) = f (tf f s l i) x := by
  obtain ⟨hi, rfl⟩ := List.getElem?_eq_some_iff.1 h
  simp only [tf, List.take_succ_eq_append_getElem hi, List.foldl_append, List.foldl_cons, List.foldl_nil]
theorem tf_ind {f : σ → α → σ} {s : σ} {l : List α} (Q : Nat → σ → Prop) (h0 : Q 0 s) (hs : ∀ i x t, l[i]? = some x → Q i t → Q (i + 1) (f t x)) : ∀ i, i ≤ l.length → Q i (tf f s l i) := by
  intro i
  induction i with
  | zero => intro _; rw [tf_zero]; exact h0
  | succ i ih =>
    intro hi
    have hx : l[i]? = some (l[i]'(by omega)) := by simp
    rw [tf_succ hx]
    exact hs i _ _ hx (ih (by omega))
def rf (f : σ → Nat → σ) (s : σ) (i : Nat) : σ := (List.range i).foldl f s
theorem rf_zero (f : σ → Nat → σ) (s : σ) : rf f s 0 = s := rfl
theorem rf_succ (f : σ → Nat → σ) (s : σ) (i : Nat) : rf f s (i + 1) = f (rf f s i) i := by
  simp only [rf, List.range_succ, List.foldl_append, List.foldl_cons, List.foldl_nil]
theorem rf_ind {f : σ → Nat → σ} {s : σ} (Q : Nat → σ → Prop) (h0 : Q 0 s) (hs : ∀ i t, Q i t → Q (i + 1) (f t i)) : ∀ i, Q i (rf f s i) := by
  intro i
  induction i with
  | zero => exact h0
  | succ i ih => rw [rf_succ]; exact hs i _ ih
end

/-! ### what the calls come to -/
def greaterB (a b : Peer) : Bool := (a.node == b.node) && (decide (b.inc < a.inc) || ((a.inc == b.inc) && decide (b.status < a.status)))
def mayB (p : Peer) : Bool := ((((decide (0 ≤ p.node) && decide (p.node < 8)) && decide (0 ≤ p.inc)) && decide (p.inc ≤ 1099511627776)) && decide (1 ≤ p.status)) && decide (p.status ≤ 3)
def passT (T : Tab) (t : Int) : Tab := { T with now := max T.now t }
def peersL (l : List KnownM) : List Peer := (l.filter (fun k => k.peer.status != 0)).map (·.peer)
def statusL (l : List KnownM) (n : Int) : Int := if n < 0 ∨ 8 ≤ n then 0 else (l[n.toNat]?.map (·.peer.status)).getD 0
def learnT (T : Tab) (p : Peer) : Tab := { T with l := T.l.set p.node.toNat ⟨p, T.now⟩ }
def ownT (T : Tab) (p : Peer) : Tab × List Peer :=
  match T.l[T.self.toNat]? with
  | none => (T, [])
  | some k =>
    if p.status = 1 then ({ T with l := T.l.set T.self.toNat { k with peer := { k.peer with inc := max k.peer.inc p.inc } } }, [])
    else if k.peer.inc ≤ p.inc ∧ p.inc < 1099511627776 then ({ T with l := T.l.set T.self.toNat { k with peer := { k.peer with inc := p.inc + 1 } } }, [{ k.peer with inc := p.inc + 1 }])
    else (T, [])
def hear1 (s : Tab × List Peer) (p : Peer) : Tab × List Peer :=
  if mayB p = false then s
  else if p.node = s.1.self then ((ownT s.1 p).1, s.2 ++ (ownT s.1 p).2)
  else match s.1.l[p.node.toNat]? with
    | none => s
    | some k => if k.peer.status = 0 ∨ greaterB p k.peer = true then (learnT s.1 p, s.2 ++ [p]) else s
def hear (T : Tab) (l : List Peer) (t : Int) : Tab × List Peer := tf hear1 (passT T t, []) l l.length
def old1 (s : Tab × List Peer) (n : Nat) : Tab × List Peer :=
  match s.1.l[n]? with
  | none => s
  | some k => if k.peer.status = 2 ∧ 300 ≤ s.1.now - k.since then (learnT s.1 { k.peer with status := 3 }, s.2 ++ [{ k.peer with status := 3 }]) else s
def oldT (T : Tab) : Tab × List Peer := rf old1 (T, []) 8
def oth1 (T : Tab) (target : Int) (s : List Int) (n : Nat) : List Int :=
  match T.l[n]? with
  | none => s
  | some k => if (((n : Int) ≠ T.self ∧ (n : Int) ≠ target) ∧ k.peer.status = 1) ∧ s.length < 2 then s ++ [(n : Int)] else s
def othersT (T : Tab) (target : Int) : List Int := rf (oth1 T target) [] 8
structure Wai where
  T : Tab
  out : List MsgC
  told : List Peer
  left : List Ping
def asks (T : Tab) (p : Ping) (l : List Int) : List MsgC := l.map fun n => mkMsg 6 T.self n p.req p.target (-1)
def wai1 (s : Wai) (p : Ping) : Wai :=
  if s.T.now - p.since < 50 then { s with left := s.left ++ [p] }
  else if p.others = false then { s with out := s.out ++ asks s.T p (othersT s.T p.target), left := s.left ++ [{ p with others := true, since := s.T.now }] }
  else match s.T.l[p.target.toNat]? with
    | none => s
    | some k => if k.peer.status = 1 then { s with T := learnT s.T { k.peer with status := 2 }, told := s.told ++ [{ k.peer with status := 2 }] } else s
def waiI (T : Tab) (i : Nat) : Wai := tf wai1 ⟨T, [], [], []⟩ T.pings i
def waitedT (T : Tab) : Wai := let s := waiI T T.pings.length; { s with T := { s.T with pings := s.left } }
def nxt1 (T : Tab) (s : Int × Int) (n : Nat) : Int × Int :=
  match T.l[n]? with
  | none => s
  | some k => if ((n : Int) = T.self ∨ k.peer.status = 0) ∨ T.pings.any (fun p => p.target == (n : Int)) = true then s
    else (if s.1 < 0 then (n : Int) else s.1, if s.2 < 0 ∧ T.target < (n : Int) then (n : Int) else s.2)
def nextT (T : Tab) : Int := let s := rf (nxt1 T) (-1, -1) 8; if 0 ≤ s.2 then s.2 else s.1
def beginT (T : Tab) : Tab × List MsgC :=
  if T.begun = true ∧ T.now - T.last < 100 then (T, [])
  else if nextT T < 0 ∨ 1099511627776 ≤ T.req then (T, [])
  else ({ T with req := T.req + 1, begun := true, last := T.now, target := nextT T, pings := T.pings ++ [⟨nextT T, T.req + 1, T.now, false⟩] }, [mkMsg 6 T.self (nextT T) (T.req + 1) (-1) (-1)])
structure Tik where
  T : Tab
  out : List MsgC
  told : List Peer
def tick (T : Tab) (t : Int) : Tik :=
  let o := oldT (passT T t)
  let v := waitedT o.1
  let q := beginT v.T
  ⟨q.1, v.out ++ q.2, o.2 ++ v.told⟩
def clampN (n : Int) : Int := if n < 0 ∨ 8 ≤ n then -1 else n
def pingedT (T : Tab) (m : MsgC) : List MsgC :=
  if m.owner = -1 ∨ m.owner = T.self then [mkMsg 7 T.self m.frm m.req T.self (clampN m.n)]
  else if 0 ≤ m.owner ∧ m.owner < 8 then [mkMsg 6 T.self m.owner m.req (-1) m.frm] else []
def pongedT (T : Tab) (m : MsgC) : Tab × List MsgC :=
  if m.n = -1 ∨ m.n = T.self then ({ T with pings := T.pings.filter (fun p => !((p.target == m.owner) && (p.req == m.req))) }, [])
  else if 0 ≤ m.n ∧ m.n < 8 then (T, [mkMsg 7 T.self m.n m.req m.owner (-1)]) else (T, [])
def meetT (T : Tab) (n : Int) : Tab × List Peer := match T.l[n.toNat]? with
  | none => (T, [])
  | some k => if k.peer.status = 0 then (learnT T ⟨n, 0, 1⟩, [⟨n, 0, 1⟩]) else (T, [])
def on (T : Tab) (m : MsgC) (t : Int) : Tik :=
  if (((m.kind ≠ 6 ∧ m.kind ≠ 7) ∨ m.frm < 0) ∨ 8 ≤ m.frm) ∨ m.frm = T.self then ⟨passT T t, [], []⟩
  else
    let q := meetT (passT T t) m.frm
    if m.kind = 6 then ⟨q.1, pingedT q.1 m, q.2⟩ else ⟨(pongedT q.1 m).1, (pongedT q.1 m).2, q.2⟩
def zk : KnownM := ⟨⟨0, 0, 0⟩, 0⟩
def newT (self : Int) : Tab := ⟨self, 0, (List.replicate 8 zk).set self.toNat { zk with peer := ⟨self, 0, 1⟩ }, [], 0, false, 0, -1⟩




end Go.Proofs.Ytagfdmdajmkddaa
