/-
  Layer 22's walks, second part: the world in memory.
-/
import Derived.Test.YtdlaoncjiolckaaGreatRows
import Derived.Test.YtdlaoncjiolckaaGreatWb
import Derived.Test.YtdlaoncjiolckaaGreatWe
namespace Go.Proofs.YtdlaoncjiolckaaGreat
attribute [local irreducible] St1 RL RA RT RT1 Run

/-! ### links as keys -/
instance : MKey LinkC where
  enc c := .agg #[.int .i64 c.a, .int .i64 c.b]
  desc P k _ := P = Tryz.prog ∧ k = 92
  check hk hd a e n w := by obtain ⟨rfl, rfl⟩ := hd; kernel_rfl
  find hk hd a es ps w h := by
    obtain ⟨rfl, rfl⟩ := hd
    have hask : ∀ (es : List MapEntry) (ps : List (LinkC × Value)) (i : Nat), es.map (fun e => (e.key, e.val)) = ps.map (fun p => ((.agg #[.int .i64 p.1.a, .int .i64 p.1.b] : Value), p.2)) →
        (Instr.findAsking 92 (.agg #[.int .i64 a.a, .int .i64 a.b]) es i).run Tryz.prog w = .ok (mfind a ps i) w := by
      intro es
      induction es with
      | nil =>
        intro ps i h
        cases ps with
        | nil => rfl
        | cons p ps => simp at h
      | cons e es ih =>
        intro ps i h
        cases ps with
        | nil => simp at h
        | cons p ps =>
          simp only [List.map_cons, List.cons.injEq, Prod.mk.injEq] at h
          obtain ⟨⟨h1, h2⟩, h3⟩ := h
          have he : (Op.equal 92 (.agg #[.int .i64 a.a, .int .i64 a.b]) e.key).run Tryz.prog w = .ok (decide (a = p.1)) w := by rw [h1]; exact eq_LinkC a p.1 w
          unfold Instr.findAsking mfind
          by_cases hc : a = p.1
          · have hd : decide (a = p.1) = true := decide_eq_true hc
            simp only [Sem.run_bind, he, Result.andThen_ok, hd, if_true, if_pos hc, Sem.run_pure, h2]
          · have hd : decide (a = p.1) = false := decide_eq_false hc
            simp only [Sem.run_bind, he, Result.andThen_ok, hd, if_neg hc, Bool.false_eq_true, if_false]
            exact ih ps (i + 1) h3
    unfold Instr.findKey
    rw [Sem.run_bind, run_underlying hk, Result.andThen_ok]
    cases es with
    | nil =>
      cases ps with
      | nil => rfl
      | cons p ps => simp at h
    | cons e es =>
      have hn : ∀ d : TypeDesc, Instr.findNow d (.agg #[.int .i64 a.a, .int .i64 a.b]) (e :: es) 0 = none := fun d => by
        rw [Instr.findNow]
        cases d <;> simp [Instr.sameNow]
      rw [hn]
      exact hask _ _ 0 h
  stays P w a := by
    have h : Instr.sameBits 10000 (.agg #[.int .i64 a.a, .int .i64 a.b]) (.agg #[.int .i64 a.a, .int .i64 a.b]) = true := by
      rw [show (10000 : Nat) = 9998 + 1 + 1 from rfl]
      simp [Instr.sameBits]
    simp [Instr.keyThatStays, h]
theorem linkD {d : TypeDesc} : MKey.desc LinkC Tryz.prog 92 d := ⟨rfl, rfl⟩
/-! ### packets in memory -/
structure Pk where
  id : Int
  v : MV
  s : Six
abbrev mval (v : MV) (s : Six) : Value := .agg #[.int .i64 (((mkC v s)).kind), .int .i64 (((mkC v s)).frm), .int .i64 (((mkC v s)).to), .int .i64 (((mkC v s)).req), .string (((mkC v s)).key), .slice (s.ea) (v.ent.length) (s.ec), .slice (s.ma) (v.mrk.length) (s.mc), .slice (s.ca) (v.cl.length) (s.cc), .int .i64 (((mkC v s)).owner), .int .i64 (((mkC v s)).part), .int .i64 (((mkC v s)).n), .int .i64 ((((mkC v s)).ring).parts), .int .i64 ((((mkC v s)).ring).copies), .int .i64 ((((mkC v s)).ring).spots), .slice (s.ba) (v.mem.length) (s.bc), .slice (s.pa) (v.pe.length) (s.pc), .slice (s.sa) (v.su.length) (s.sc)]
def Pk.p (x : Pk) : Int × MV := (x.id, x.v)
def pents (ts : List Pk) : List (Int × Value) := ts.map fun p => (p.id, mval p.v p.s)
def cents (cs : List LinkC) : List (LinkC × Value) := cs.map fun c => (c, .agg #[])
def mgsS (ts : List Pk) : Nat → Prop := fun q => ∃ t ∈ ts, ownS t.s q
structure MgAt (w : World) (t : Pk) : Prop where
  own : SixO w t.s t.v
  apart : SixA t.s
  ok : VOk t.v
structure MgsAt (w : World) (ts : List Pk) : Prop where
  all : ∀ t ∈ ts, MgAt w t
  apart : ts.Pairwise (fun f g => ∀ q, ownS f.s q → ¬ ownS g.s q)
def wF (b pm cm : Nat) : Nat → Prop := fun q => q = b ∨ (q = pm ∨ q = cm)
def wS (b pm cm : Nat) (ts : List Pk) : Nat → Prop := fun q => q = b ∨ (q = pm ∨ (q = cm ∨ mgsS ts q))
section
variable {w w' : World} {S : Nat → Prop} {t : Pk} {ts l1 l2 : List Pk} {b pm cm : Nat}
theorem MgAt.keepO (h : MgAt w t) (k : Keeps S w w') (hn : ∀ q, ownS t.s q → ¬ S q) : MgAt w' t := ⟨h.own.keepO k hn, h.apart, h.ok⟩
theorem MgsAt.own_lt (h : MgsAt w ts) : ∀ q, mgsS ts q → q < w.heap.size := fun q ⟨f, hf, hq⟩ => (h.all f hf).own.own_lt q hq
theorem MgsAt.keepO (h : MgsAt w ts) (k : Keeps S w w') (hn : ∀ q, mgsS ts q → ¬ S q) : MgsAt w' ts := ⟨fun f hf => (h.all f hf).keepO k (fun q hq => hn q ⟨f, hf, hq⟩), h.apart⟩
theorem MgsAt.ext (h : MgsAt w ts) (k : Ext w w') : MgsAt w' ts := h.keepO k fun _ _ => id
theorem MgsAt.nil (w : World) : MgsAt w [] := ⟨fun _ h => absurd h (by simp), List.Pairwise.nil⟩
theorem MgsAt.sub (h : MgsAt w ts) (hs : l1.Sublist ts) : MgsAt w l1 := ⟨fun f hf => h.all f (hs.subset hf), h.apart.sublist hs⟩
theorem MgsAt.snoc (h : MgsAt w ts) (ht : MgAt w t) (hn : ∀ q, mgsS ts q → ¬ ownS t.s q) : MgsAt w (ts ++ [t]) := by
  refine ⟨fun f hf => ?_, List.pairwise_append.2 ⟨h.apart, List.pairwise_singleton _ _, fun a ha c hc q h1 h2 => ?_⟩⟩
  · rcases List.mem_append.1 hf with hf | hf
    · exact h.all f hf
    · simp only [List.mem_singleton] at hf; subst hf; exact ht
  · simp only [List.mem_singleton] at hc; subst hc; exact hn q ⟨a, ha, h1⟩ h2
theorem mgs_snoc {q : Nat} : mgsS (ts ++ [t]) q ↔ mgsS ts q ∨ ownS t.s q := by
  simp only [mgsS, List.mem_append, List.mem_singleton]
  constructor
  · rintro ⟨f, h | rfl, hq⟩
    · exact .inl ⟨f, h, hq⟩
    · exact .inr hq
  · rintro (⟨f, h, hq⟩ | h)
    · exact ⟨f, .inl h, hq⟩
    · exact ⟨t, .inr rfl, h⟩
theorem mgs_sub (hs : l1.Sublist ts) : ∀ q, mgsS l1 q → mgsS ts q := fun q ⟨f, hf, hq⟩ => ⟨f, hs.subset hf, hq⟩
theorem mid_sub : (l1 ++ l2).Sublist (l1 ++ t :: l2) := List.Sublist.append_left (List.sublist_cons_self t l2) l1
theorem mgs_case {i : Int} {v : MV} {s : Six} : ∀ q, mgsS (ts ++ [⟨i, v, s⟩]) q → ownS s q ∨ mgsS ts q := fun q h => (mgs_snoc.1 h).symm
theorem wF_wS : ∀ q, wF b pm cm q → wS b pm cm ts q := fun q h => h.imp id fun h => h.imp id fun h => .inl h
end
/-- what is always so of a world -/
structure WOk (nodes id now : Int) (pv : List (Int × MV)) : Prop where
  nodes : 1 ≤ nodes ∧ nodes ≤ 8
  id0 : 0 ≤ id
  now : 0 ≤ now ∧ now ≤ 1099511627776
  rise : pv.Pairwise (fun x y => x.1 < y.1)
  le : ∀ p ∈ pv, 1 ≤ p.1 ∧ p.1 ≤ id
  len : pv.length ≤ 512
structure WldO (w : World) (b pm cm : Nat) (nodes id now : Int) (ts : List Pk) (cs : List LinkC) : Prop where
  blk : Blk w b [.int .i64 nodes, .map (some pm), .map (some cm), .int .i64 id, .int .i64 now] 64
  pk : MapAt w pm (pents ts)
  cu : MapAt w cm (cents cs)
  ms : MgsAt w ts
  n1 : b ≠ pm
  n2 : b ≠ cm
  n3 : pm ≠ cm
  sb : ¬ mgsS ts b
  sp : ¬ mgsS ts pm
  sc : ¬ mgsS ts cm
  ok : WOk nodes id now (ts.map Pk.p)
section
variable {w w' : World} {S : Nat → Prop} {p : Pk} {ts l1 l2 : List Pk} {cs : List LinkC} {b pm cm : Nat} {nodes id now i : Int} {v : MV} {s : Six}
theorem WldO.own_lt (h : WldO w b pm cm nodes id now ts cs) : ∀ q, wS b pm cm ts q → q < w.heap.size := by
  rintro q (rfl | rfl | rfl | hq)
  · exact h.blk.lt
  · exact h.pk.lt
  · exact h.cu.lt
  · exact h.ms.own_lt q hq
theorem WldO.keepO (h : WldO w b pm cm nodes id now ts cs) (k : Keeps S w w') (hn : ∀ q, wS b pm cm ts q → ¬ S q) : WldO w' b pm cm nodes id now ts cs :=
  ⟨h.blk.keep k (hn _ (.inl rfl)), h.pk.keep k (hn _ (.inr (.inl rfl))), h.cu.keep k (hn _ (.inr (.inr (.inl rfl)))), h.ms.keepO k (fun q hq => hn q (.inr (.inr (.inr hq)))), h.n1, h.n2, h.n3, h.sb, h.sp, h.sc, h.ok⟩
theorem WldO.ext (h : WldO w b pm cm nodes id now ts cs) (k : Ext w w') : WldO w' b pm cm nodes id now ts cs := h.keepO k fun _ _ h => h
theorem p_inj (hr : (ts.map Pk.p).Pairwise (fun x y => x.1 < y.1)) {x y : Pk} (hx : x ∈ ts) (hy : y ∈ ts) (e : x.id = y.id) : x = y := by
  obtain ⟨j, hj, rfl⟩ := List.getElem_of_mem hx
  obtain ⟨k, hk, rfl⟩ := List.getElem_of_mem hy
  have h := List.pairwise_iff_getElem.1 (List.pairwise_map.1 hr)
  by_cases c : j = k
  · subst c; rfl
  · rcases Nat.lt_or_gt_of_ne c with c | c
    · have : ts[j].id < ts[k].id := h j k hj hk c
      omega
    · have : ts[k].id < ts[j].id := h k j hk hj c
      omega
theorem pk_mid (hp : p ∈ ts) : ∃ l1 l2, ts = l1 ++ p :: l2 := List.append_of_mem hp
theorem mget_in : ∀ {ts : List Pk}, (ts.map Pk.p).Pairwise (fun x y => x.1 < y.1) → p ∈ ts → p.id = i → mget (pents ts) i = some (mval p.v p.s) := by
  intro ts hr hp hi
  unfold mget pents
  obtain ⟨l1, l2, rfl⟩ := pk_mid hp
  have hno : ∀ x ∈ l1, ¬ i = x.id := fun x hx e => by
    rw [List.map_append, List.map_cons] at hr
    have : x.id < p.id := (List.pairwise_append.1 hr).2.2 x.p (List.mem_map.2 ⟨x, hx, rfl⟩) p.p (by simp)
    omega
  rw [List.map_append, List.map_cons, List.find?_append]
  have e1 : (l1.map (fun p : Pk => (p.id, mval p.v p.s))).find? (fun q => decide (i = q.1)) = none := by
    rw [List.find?_eq_none]
    intro x hx
    obtain ⟨y, hy, rfl⟩ := List.mem_map.1 hx
    simpa using hno y hy
  rw [e1, Option.none_or, List.find?_cons]
  simp [hi]
theorem mget_no (h : ¬ ∃ p ∈ ts, p.id = i) : mget (pents ts) i = none := by
  unfold mget pents
  rw [Option.map_eq_none_iff, List.find?_eq_none]
  intro x hx
  obtain ⟨y, hy, rfl⟩ := List.mem_map.1 hx
  simp only [decide_eq_true_eq]
  exact fun e => h ⟨y, hy, e.symm⟩
theorem mfind_new (h : ∀ q ∈ ts, q.id < i) : mfind i (pents ts) 0 = none := by
  have := mfind_get i (pents ts) 0
  rw [mget_no (i := i) (ts := ts) (fun h2 => by obtain ⟨p, hp, e⟩ := h2; have := h p hp; omega)] at this
  exact Option.map_eq_none_iff.1 this
theorem pents_put (h : ∀ q ∈ ts, q.id < i) : mput (pents ts) i (mval v s) = pents (ts ++ [⟨i, v, s⟩]) := by
  unfold mput
  rw [mfind_new h, pents, pents, List.map_append]; rfl
theorem mfind_mid : ∀ {l1 : List Pk} (j : Nat), (∀ x ∈ l1, ¬ i = x.id) → p.id = i → mfind i (pents (l1 ++ p :: l2)) j = some (j + l1.length, mval p.v p.s)
  | [], j, _, hi => by simp [pents, mfind, hi]
  | x :: l1, j, h, hi => by
    have h1 := mfind_mid (l1 := l1) (j + 1) (fun y hy => h y (List.mem_cons_of_mem _ hy)) hi
    unfold pents at h1 ⊢
    simp only [List.cons_append, List.map_cons, mfind]
    rw [if_neg (h x (by simp)), h1]
    simp only [List.length_cons, Option.some.injEq, Prod.mk.injEq, and_true]
    omega
theorem pents_del (hr : (ts.map Pk.p).Pairwise (fun x y => x.1 < y.1)) (e : ts = l1 ++ p :: l2) (hi : p.id = i) : mdel (pents ts) i = pents (l1 ++ l2) := by
  subst e
  have hno : ∀ x ∈ l1, ¬ i = x.id := fun x hx e => by
    rw [List.map_append, List.map_cons] at hr
    have : x.id < p.id := (List.pairwise_append.1 hr).2.2 x.p (List.mem_map.2 ⟨x, hx, rfl⟩) p.p (by simp)
    omega
  unfold mdel
  rw [mfind_mid 0 hno hi]
  simp only [Nat.zero_add, pents]
  rw [← map_eraseI]
  congr 1
  rw [List.eraseIdx_append_of_length_le (Nat.le_refl _), Nat.sub_self]; rfl
theorem pents_len (ts : List Pk) : (pents ts).length = ts.length := List.length_map ..
theorem WOk.put (h : WOk nodes id now (ts.map Pk.p)) (hl : ts.length < 512) : WOk nodes (id + 1) now ((ts ++ [(⟨id + 1, v, s⟩ : Pk)]).map Pk.p) := by
  refine ⟨h.nodes, by have := h.id0; omega, h.now, ?_, fun p hp => ?_, by rw [List.length_map, List.length_append]; simp only [List.length_singleton]; omega⟩
  · rw [List.map_append]
    refine List.pairwise_append.2 ⟨h.rise, List.pairwise_singleton _ _, fun a ha c hc => ?_⟩
    simp only [List.map_cons, List.map_nil, List.mem_singleton] at hc
    subst hc
    have := (h.le a ha).2
    show a.1 < id + 1; omega
  · rw [List.map_append] at hp
    rcases List.mem_append.1 hp with hp | hp
    · have := h.le p hp; omega
    · simp only [List.map_cons, List.map_nil, List.mem_singleton] at hp
      subst hp
      have := h.id0
      exact ⟨by show 1 ≤ id + 1; omega, Int.le_refl _⟩
theorem WOk.sub {pv : List (Int × MV)} (h : WOk nodes id now (ts.map Pk.p)) (hs : pv.Sublist (ts.map Pk.p)) : WOk nodes id now pv :=
  ⟨h.nodes, h.id0, h.now, h.rise.sublist hs, fun p hp => h.le p (hs.subset hp), Nat.le_trans hs.length_le h.len⟩
theorem ids_lt (h : WOk nodes id now (ts.map Pk.p)) : ∀ q ∈ ts, q.id < id + 1 := fun q hq => by
  have : q.id ≤ id := (h.le q.p (List.mem_map.2 ⟨q, hq, rfl⟩)).2
  omega
theorem p_len (ts : List Pk) : (ts.map Pk.p).length = ts.length := List.length_map ..
end
/-! ### plain -/
def nodeB (nodes n : Int) : Bool := decide (0 ≤ n) && decide (n < nodes)
def twoB (nodes a b : Int) : Bool := (nodeB nodes a && nodeB nodes b) && decide (a ≠ b)
def lk (a b : Int) : LinkC := ⟨min a b, max a b⟩
def linkedB (nodes : Int) (cs : List LinkC) (a b : Int) : Bool := (nodeB nodes a && nodeB nodes b) && !decide (lk a b ∈ cs)




end Go.Proofs.YtdlaoncjiolckaaGreat
