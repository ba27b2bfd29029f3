/-
  Layer 22's walks, fourth part.
-/
import Derived.Test.YtdlaoncjiolckaaGreatRows
import Derived.Test.YtdlaoncjiolckaaGreatWd
namespace Go.Proofs.YtdlaoncjiolckaaGreat
attribute [local irreducible] St1 RL RA RT RT1 Run

/-! ### plain -/
def cutE (nodes : Int) (cs : List LinkC) (a b : Int) : Int := if twoB nodes a b then (if lk a b ∈ cs then 220 else 0) else 1
def cutL (nodes : Int) (cs : List LinkC) (a b : Int) : List LinkC := if cutE nodes cs a b = 0 then cs ++ [lk a b] else cs
def mendE (nodes : Int) (cs : List LinkC) (a b : Int) : Int := if twoB nodes a b then (if lk a b ∈ cs then 0 else 220) else 1
def mendL (nodes : Int) (cs : List LinkC) (a b : Int) : List LinkC := if mendE nodes cs a b = 0 then cs.erase (lk a b) else cs
def passE (now n : Int) : Int := if n < 0 ∨ 1099511627776 - now < n then 1 else 0
def passN (now n : Int) : Int := if passE now n = 0 then now + n else now
/-- what a sending has come to -/
structure Sn where
  id : Int
  pv : List (Int × MV)
  n : Nat
def snStep (nodes : Int) (s : Sn) (v : MV) : Sn := if twoB nodes v.frm v.to = true ∧ s.pv.length < 512 then ⟨s.id + 1, s.pv ++ [(s.id + 1, v)], s.n + 1⟩ else s
def snI (nodes id : Int) (pv : List (Int × MV)) (vs : List MV) (i : Nat) : Sn := (vs.take i).foldl (snStep nodes) ⟨id, pv, 0⟩
structure Mg where
  v : MV
  s : Six
def Mg.c (m : Mg) : MsgC := mkC m.v m.s
section
variable {w : World} {p : Pk} {ts l1 l2 : List Pk} {nodes id now i a b : Int} {v : MV} {s : Six} {cs : List LinkC} {l : LinkC} {pv : List (Int × MV)} {vs : List MV} {k : Nat} {ms : List Mg}
theorem cfind_new (h : l ∉ cs) : mfind l (cents cs) 0 = none := by
  have h1 := mfind_get l (cents cs) 0
  have h2 : mget (cents cs) l = none := by
    unfold mget cents
    rw [Option.map_eq_none_iff, List.find?_eq_none]
    intro x hx
    obtain ⟨y, hy, rfl⟩ := List.mem_map.1 hx
    simp only [decide_eq_true_eq]
    exact fun e => h (e ▸ hy)
  rw [h2] at h1
  exact Option.map_eq_none_iff.1 h1
theorem cents_put (h : l ∉ cs) : mput (cents cs) l (.agg #[]) = cents (cs ++ [l]) := by
  unfold mput
  rw [cfind_new h, cents, cents, List.map_append]; rfl
theorem cents_del (l : LinkC) : mdel (cents cs) l = cents (cs.erase l) := by
  have h : ∀ (cs : List LinkC) (j : Nat), (l ∉ cs → mfind l (cents cs) j = none) ∧ (l ∈ cs → ∃ k, mfind l (cents cs) j = some (j + k, .agg #[]) ∧ cents (cs.erase l) = (cents cs).eraseIdx k) := by
    intro cs
    induction cs with
    | nil => exact fun j => ⟨fun _ => rfl, fun h => absurd h (by simp)⟩
    | cons c cs ih =>
      intro j
      by_cases hc : l = c
      · subst hc
        exact ⟨fun h => absurd (by simp) h, fun _ => ⟨0, by simp [cents, mfind], by simp [cents]⟩⟩
      · obtain ⟨h1, h2⟩ := ih (j + 1)
        have e : mfind l (cents (c :: cs)) j = mfind l (cents cs) (j + 1) := by simp [cents, mfind, hc]
        refine ⟨fun h => by rw [e]; exact h1 (fun h' => h (List.mem_cons_of_mem _ h')), fun h => ?_⟩
        obtain ⟨k, hk1, hk2⟩ := h2 ((List.mem_cons.1 h).resolve_left hc)
        refine ⟨k + 1, by rw [e, hk1]; simp only [Option.some.injEq, Prod.mk.injEq, and_true]; omega, ?_⟩
        rw [List.erase_cons_tail (by simpa using fun e : c = l => hc e.symm)]
        unfold cents at hk2 ⊢
        rw [List.map_cons, hk2, List.map_cons, List.eraseIdx_cons_succ]
  unfold mdel
  by_cases hm : l ∈ cs
  · obtain ⟨k, h1, h2⟩ := (h cs 0).2 hm
    rw [h1, h2]
    simp only [Nat.zero_add]
  · rw [(h cs 0).1 hm, List.erase_of_not_mem hm]
theorem cut_two (h : twoB nodes a b = false) : cutE nodes cs a b = 1 ∧ cutL nodes cs a b = cs := by
  have e : cutE nodes cs a b = 1 := by rw [cutE, h]; rfl
  exact ⟨e, by rw [cutL, e]; rfl⟩
theorem cut_is (h : twoB nodes a b = true) (hm : lk a b ∈ cs) : cutE nodes cs a b = 220 ∧ cutL nodes cs a b = cs := by
  have e : cutE nodes cs a b = 220 := by rw [cutE, h, if_pos rfl, if_pos hm]
  exact ⟨e, by rw [cutL, e]; rfl⟩
theorem cut_ok (h : twoB nodes a b = true) (hm : ¬ lk a b ∈ cs) : cutE nodes cs a b = 0 ∧ cutL nodes cs a b = cs ++ [lk a b] := by
  have e : cutE nodes cs a b = 0 := by rw [cutE, h, if_pos rfl, if_neg hm]
  exact ⟨e, by rw [cutL, if_pos e]⟩
theorem mend_two (h : twoB nodes a b = false) : mendE nodes cs a b = 1 ∧ mendL nodes cs a b = cs := by
  have e : mendE nodes cs a b = 1 := by rw [mendE, h]; rfl
  exact ⟨e, by rw [mendL, e]; rfl⟩
theorem mend_no (h : twoB nodes a b = true) (hm : ¬ lk a b ∈ cs) : mendE nodes cs a b = 220 ∧ mendL nodes cs a b = cs := by
  have e : mendE nodes cs a b = 220 := by rw [mendE, h, if_pos rfl, if_neg hm]
  exact ⟨e, by rw [mendL, e]; rfl⟩
theorem mend_ok (h : twoB nodes a b = true) (hm : lk a b ∈ cs) : mendE nodes cs a b = 0 ∧ mendL nodes cs a b = cs.erase (lk a b) := by
  have e : mendE nodes cs a b = 0 := by rw [mendE, h, if_pos rfl, if_pos hm]
  exact ⟨e, by rw [mendL, if_pos e]⟩
theorem linked_no (h : nodeB nodes a = false ∨ nodeB nodes b = false) : linkedB nodes cs a b = false := by
  rcases h with h | h
  · rw [linkedB, h]; rfl
  · rw [linkedB, h, Bool.and_false]; rfl
theorem linked_yes (h1 : nodeB nodes a = true) (h2 : nodeB nodes b = true) : linkedB nodes cs a b = !decide (lk a b ∈ cs) := by rw [linkedB, h1, h2]; rfl
theorem pass_no (h : a < 0 ∨ 1099511627776 - now < a) : passE now a = 1 ∧ passN now a = now := by
  have e : passE now a = 1 := if_pos h
  exact ⟨e, by rw [passN, e]; rfl⟩
theorem pass_ok (h : ¬ (a < 0 ∨ 1099511627776 - now < a)) : passE now a = 0 ∧ passN now a = now + a := by
  have e : passE now a = 0 := if_neg h
  exact ⟨e, by rw [passN, if_pos e]⟩
theorem WOk.pass (h : WOk nodes id now pv) (h1 : 0 ≤ a) (h2 : a ≤ 1099511627776 - now) : WOk nodes id (now + a) pv := ⟨h.nodes, h.id0, by have := h.now; omega, h.rise, h.le, h.len⟩
theorem sn_succ (h : vs[k]? = some v) : snI nodes id pv vs (k + 1) = snStep nodes (snI nodes id pv vs k) v := by
  obtain ⟨hk, rfl⟩ := List.getElem?_eq_some_iff.1 h
  rw [snI, List.take_succ_eq_append_getElem hk, List.foldl_append]; rfl
theorem sn_no (h : vs[k]? = some v) (hn : twoB nodes v.frm v.to = false ∨ 512 ≤ (snI nodes id pv vs k).pv.length) : snI nodes id pv vs (k + 1) = snI nodes id pv vs k := by
  rw [sn_succ h, snStep, if_neg]
  rintro ⟨h1, h2⟩
  rcases hn with hn | hn
  · rw [hn] at h1; cases h1
  · omega
theorem sn_yes (h : vs[k]? = some v) (h1 : twoB nodes v.frm v.to = true) (h2 : (snI nodes id pv vs k).pv.length < 512) : snI nodes id pv vs (k + 1) = ⟨(snI nodes id pv vs k).id + 1, (snI nodes id pv vs k).pv ++ [((snI nodes id pv vs k).id + 1, v)], (snI nodes id pv vs k).n + 1⟩ := by
  rw [sn_succ h, snStep, if_pos ⟨h1, h2⟩]
theorem sn_b (hl : pv.length ≤ 512) : ∀ k, k ≤ vs.length → (snI nodes id pv vs k).n ≤ k ∧ (snI nodes id pv vs k).id = id + (snI nodes id pv vs k).n ∧ (snI nodes id pv vs k).pv.length = pv.length + (snI nodes id pv vs k).n ∧ (snI nodes id pv vs k).pv.length ≤ 512
  | 0, _ => ⟨Nat.le_refl _, by show id = id + ((0 : Nat) : Int); omega, rfl, hl⟩
  | k + 1, h => by
    obtain ⟨h1, h2, h3, h4⟩ := sn_b hl k (by omega)
    have hv : vs[k]? = some vs[k] := List.getElem?_eq_getElem (by omega)
    by_cases c : twoB nodes vs[k].frm vs[k].to = true ∧ (snI nodes id pv vs k).pv.length < 512
    · rw [sn_yes hv c.1 c.2]
      simp only [List.length_append, List.length_singleton]
      omega
    · rw [sn_succ hv, snStep, if_neg c]; omega
theorem mg_get {x : MsgC} (h : (ms.map Mg.c)[k]? = some x) : ∃ m, ms[k]? = some m ∧ x = mkC m.v m.s ∧ (ms.map Mg.v)[k]? = some m.v := by
  rw [List.getElem?_map, Option.map_eq_some_iff] at h
  obtain ⟨m, hm, rfl⟩ := h
  exact ⟨m, hm, rfl, by rw [List.getElem?_map, hm]; rfl⟩
end

theorem ty62 : Ty Tryz.prog 62 1 8 (.map none) false := ty_of (by kernel_rfl) (by kernel_rfl)
theorem ty111 : Ty Tryz.prog 111 0 0 (.agg #[]) true := ty_of (by kernel_rfl) (by kernel_rfl)

set_option maxRecDepth 100000 in
set_option maxHeartbeats 4000000 in
theorem lookNil  (i : Int) (w : World) :
    Calls Tryz.prog 42 #[.pointer none, .int .i64 (i)] w (Ret (fun v w' => v = .tuple #[.agg #[.int .i64 (((mkC nilV nilS)).kind), .int .i64 (((mkC nilV nilS)).frm), .int .i64 (((mkC nilV nilS)).to), .int .i64 (((mkC nilV nilS)).req), .string (((mkC nilV nilS)).key), .slice (nilS.ea) (nilV.ent.length) (nilS.ec), .slice (nilS.ma) (nilV.mrk.length) (nilS.mc), .slice (nilS.ca) (nilV.cl.length) (nilS.cc), .int .i64 (((mkC nilV nilS)).owner), .int .i64 (((mkC nilV nilS)).part), .int .i64 (((mkC nilV nilS)).n), .int .i64 ((((mkC nilV nilS)).ring).parts), .int .i64 ((((mkC nilV nilS)).ring).copies), .int .i64 ((((mkC nilV nilS)).ring).spots), .slice (nilS.ba) (nilV.mem.length) (nilS.bc), .slice (nilS.pa) (nilV.pe.length) (nilS.pc), .slice (nilS.sa) (nilV.su.length) (nilS.sc)], .int .i64 8] ∧ Ext w w')) := by
  refine calls_run (n := 25) Tryz.func42 rfl rfl rfl ?_
  refine Run.seq ?_
  refine Run.region ?_
  refine RL.st rfl <| St1.alloc ty57 ?_
  intro b_1 w_2 hl_5 hb_4 K_3
  replace hb_4 : Blk w_2 b_1 [.int .i64 (0), .int .i64 (0), .int .i64 (0), .int .i64 (0), .string (⟨#[]⟩), .slice (none) (0) (0), .slice (none) (0) (0), .slice (none) (0) (0), .int .i64 (0), .int .i64 (0), .int .i64 (0), .int .i64 (0), .int .i64 (0), .int .i64 (0), .slice (none) (0) (0), .slice (none) (0) (0), .slice (none) (0) (0)] 57 := hb_4
  have : w.heap.size ≤ b_1 := hl_5
  clear hl_5
  have K0 := (K_3 : Ext w _)
  refine RL.val (x_assignI rfl) ?_
  refine RL.nil ?_
  refine Run.seq ?_
  refine Run.seq ?_
  refine Run.region ?_
  refine RL.val (x_moveP rfl) ?_
  refine RL.st rfl <| St1.call (vals := [.pointer none]) en31 rfl (madeNil  _) ?_
  rintro _ w_6 ⟨rfl, K_7⟩
  replace hb_4 := hb_4.ext K_7
  replace K0 := K0.ext K_7
  refine RL.val (x_not (b := false) rfl) ?_
  refine RL.nil ?_
  refine Run.condT rfl ?_
  refine Run.seq ?_
  refine Run.region ?_
  refine RL.val (x_build (cells := #[.int .i64 (0), .int .i64 (0), .int .i64 (0), .int .i64 (0), .string (⟨#[]⟩), .slice (none) (0) (0), .slice (none) (0) (0), .slice (none) (0) (0), .int .i64 (0), .int .i64 (0), .int .i64 (0), .int .i64 (0), .int .i64 (0), .int .i64 (0), .slice (none) (0) (0), .slice (none) (0) (0), .slice (none) (0) (0)]) (by kernel_rfl)) ?_
  refine RL.st rfl <| St1.store (v := .agg #[.int .i64 (0), .int .i64 (0), .int .i64 (0), .int .i64 (0), .string (⟨#[]⟩), .slice (none) (0) (0), .slice (none) (0) (0), .slice (none) (0) (0), .int .i64 (0), .int .i64 (0), .int .i64 (0), .int .i64 (0), .int .i64 (0), .int .i64 (0), .slice (none) (0) (0), .slice (none) (0) (0), .slice (none) (0) (0)]) ty57 rfl rfl rfl (by simp [Value.cells, Value.oneCell']) hb_4 (by simp) ?_
  intro w_8 hb_4_ K_9
  have hb_4' : Blk w_8 b_1 [.int .i64 (0), .int .i64 (0), .int .i64 (0), .int .i64 (0), .string (⟨#[]⟩), .slice (none) (0) (0), .slice (none) (0) (0), .slice (none) (0) (0), .int .i64 (0), .int .i64 (0), .int .i64 (0), .int .i64 (0), .int .i64 (0), .int .i64 (0), .slice (none) (0) (0), .slice (none) (0) (0), .slice (none) (0) (0)] 57 := hb_4_
  clear hb_4_
  replace K0 := K0.new K_9 (fun x hx => by simp only [one] at hx; omega)
  replace hb_4 := hb_4'
  clear hb_4'
  refine RL.val (x_assignI rfl) ?_
  refine RL.nil ?_
  refine Run.retCT (x := .int .i64 (8)) (cs := #[.int .i64 (0), .int .i64 (0), .int .i64 (0), .int .i64 (0), .string (⟨#[]⟩), .slice (none) (0) (0), .slice (none) (0) (0), .slice (none) (0) (0), .int .i64 (0), .int .i64 (0), .int .i64 (0), .int .i64 (0), .int .i64 (0), .int .i64 (0), .slice (none) (0) (0), .slice (none) (0) (0), .slice (none) (0) (0)]) Tryz.func42 rfl ty57 rfl rfl hb_4.cl rfl ?_
  exact ⟨_, rfl, rfl, K0⟩

set_option maxRecDepth 100000 in
set_option maxHeartbeats 4000000 in
theorem lookZero (b : Nat) (i : Int) (w : World) (hB : Blk w b [.int .i64 0, .map none, .map none, .int .i64 0, .int .i64 0] 64) :
    Calls Tryz.prog 42 #[.pointer (some ⟨b, 0, none⟩), .int .i64 (i)] w (Ret (fun v w' => v = .tuple #[.agg #[.int .i64 (((mkC nilV nilS)).kind), .int .i64 (((mkC nilV nilS)).frm), .int .i64 (((mkC nilV nilS)).to), .int .i64 (((mkC nilV nilS)).req), .string (((mkC nilV nilS)).key), .slice (nilS.ea) (nilV.ent.length) (nilS.ec), .slice (nilS.ma) (nilV.mrk.length) (nilS.mc), .slice (nilS.ca) (nilV.cl.length) (nilS.cc), .int .i64 (((mkC nilV nilS)).owner), .int .i64 (((mkC nilV nilS)).part), .int .i64 (((mkC nilV nilS)).n), .int .i64 ((((mkC nilV nilS)).ring).parts), .int .i64 ((((mkC nilV nilS)).ring).copies), .int .i64 ((((mkC nilV nilS)).ring).spots), .slice (nilS.ba) (nilV.mem.length) (nilS.bc), .slice (nilS.pa) (nilV.pe.length) (nilS.pc), .slice (nilS.sa) (nilV.su.length) (nilS.sc)], .int .i64 8] ∧ Ext w w')) := by
  refine calls_run (n := 25) Tryz.func42 rfl rfl rfl ?_
  refine Run.seq ?_
  refine Run.region ?_
  refine RL.st rfl <| St1.alloc ty57 ?_
  intro b_1 w_2 hl_5 hb_4 K_3
  replace hb_4 : Blk w_2 b_1 [.int .i64 (0), .int .i64 (0), .int .i64 (0), .int .i64 (0), .string (⟨#[]⟩), .slice (none) (0) (0), .slice (none) (0) (0), .slice (none) (0) (0), .int .i64 (0), .int .i64 (0), .int .i64 (0), .int .i64 (0), .int .i64 (0), .int .i64 (0), .slice (none) (0) (0), .slice (none) (0) (0), .slice (none) (0) (0)] 57 := hb_4
  have ne_6 : b < b_1 := Nat.lt_of_lt_of_le hB.lt hl_5
  have : w.heap.size ≤ b_1 := hl_5
  clear hl_5
  replace hB := hB.ext K_3
  have K0 := (K_3 : Ext w _)
  refine RL.val (x_assignI rfl) ?_
  refine RL.nil ?_
  refine Run.seq ?_
  refine Run.seq ?_
  refine Run.region ?_
  refine RL.val (x_moveP rfl) ?_
  refine RL.st rfl <| St1.call (vals := [.pointer (some ⟨b, 0, none⟩)]) en31 rfl (madeZero _  _ hB) ?_
  rintro _ w_7 ⟨rfl, K_8⟩
  replace hB := hB.ext K_8
  replace hb_4 := hb_4.ext K_8
  replace K0 := K0.ext K_8
  refine RL.val (x_not (b := false) rfl) ?_
  refine RL.nil ?_
  refine Run.condT rfl ?_
  refine Run.seq ?_
  refine Run.region ?_
  refine RL.val (x_build (cells := #[.int .i64 (0), .int .i64 (0), .int .i64 (0), .int .i64 (0), .string (⟨#[]⟩), .slice (none) (0) (0), .slice (none) (0) (0), .slice (none) (0) (0), .int .i64 (0), .int .i64 (0), .int .i64 (0), .int .i64 (0), .int .i64 (0), .int .i64 (0), .slice (none) (0) (0), .slice (none) (0) (0), .slice (none) (0) (0)]) (by kernel_rfl)) ?_
  refine RL.st rfl <| St1.store (v := .agg #[.int .i64 (0), .int .i64 (0), .int .i64 (0), .int .i64 (0), .string (⟨#[]⟩), .slice (none) (0) (0), .slice (none) (0) (0), .slice (none) (0) (0), .int .i64 (0), .int .i64 (0), .int .i64 (0), .int .i64 (0), .int .i64 (0), .int .i64 (0), .slice (none) (0) (0), .slice (none) (0) (0), .slice (none) (0) (0)]) ty57 rfl rfl rfl (by simp [Value.cells, Value.oneCell']) hb_4 (by simp) ?_
  intro w_9 hb_4_ K_10
  have hb_4' : Blk w_9 b_1 [.int .i64 (0), .int .i64 (0), .int .i64 (0), .int .i64 (0), .string (⟨#[]⟩), .slice (none) (0) (0), .slice (none) (0) (0), .slice (none) (0) (0), .int .i64 (0), .int .i64 (0), .int .i64 (0), .int .i64 (0), .int .i64 (0), .int .i64 (0), .slice (none) (0) (0), .slice (none) (0) (0), .slice (none) (0) (0)] 57 := hb_4_
  clear hb_4_
  replace hB := hB.keep K_10 (by simp only [one]; omega)
  replace K0 := K0.new K_10 (fun x hx => by simp only [one] at hx; omega)
  replace hb_4 := hb_4'
  clear hb_4'
  refine RL.val (x_assignI rfl) ?_
  refine RL.nil ?_
  refine Run.retCT (x := .int .i64 (8)) (cs := #[.int .i64 (0), .int .i64 (0), .int .i64 (0), .int .i64 (0), .string (⟨#[]⟩), .slice (none) (0) (0), .slice (none) (0) (0), .slice (none) (0) (0), .int .i64 (0), .int .i64 (0), .int .i64 (0), .int .i64 (0), .int .i64 (0), .int .i64 (0), .slice (none) (0) (0), .slice (none) (0) (0), .slice (none) (0) (0)]) Tryz.func42 rfl ty57 rfl rfl hb_4.cl rfl ?_
  exact ⟨_, rfl, rfl, K0⟩

set_option maxRecDepth 100000 in
set_option maxHeartbeats 4000000 in
theorem look_ (b pm cm : Nat) (nodes id now : Int) (ts : List Pk) (cs : List LinkC) (i : Int) (w : World) (hD : WldO w b pm cm nodes id now ts cs) :
    Calls Tryz.prog 42 #[.pointer (some ⟨b, 0, none⟩), .int .i64 (i)] w (Ret (fun r w' => (∃ p ∈ ts, p.id = i ∧ r = .tuple #[.agg #[.int .i64 (((mkC p.v p.s)).kind), .int .i64 (((mkC p.v p.s)).frm), .int .i64 (((mkC p.v p.s)).to), .int .i64 (((mkC p.v p.s)).req), .string (((mkC p.v p.s)).key), .slice (p.s.ea) (p.v.ent.length) (p.s.ec), .slice (p.s.ma) (p.v.mrk.length) (p.s.mc), .slice (p.s.ca) (p.v.cl.length) (p.s.cc), .int .i64 (((mkC p.v p.s)).owner), .int .i64 (((mkC p.v p.s)).part), .int .i64 (((mkC p.v p.s)).n), .int .i64 ((((mkC p.v p.s)).ring).parts), .int .i64 ((((mkC p.v p.s)).ring).copies), .int .i64 ((((mkC p.v p.s)).ring).spots), .slice (p.s.ba) (p.v.mem.length) (p.s.bc), .slice (p.s.pa) (p.v.pe.length) (p.s.pc), .slice (p.s.sa) (p.v.su.length) (p.s.sc)], .int .i64 0] ∧ Ext w w') ∨ ((¬ ∃ p ∈ ts, p.id = i) ∧ r = .tuple #[.agg #[.int .i64 (((mkC nilV nilS)).kind), .int .i64 (((mkC nilV nilS)).frm), .int .i64 (((mkC nilV nilS)).to), .int .i64 (((mkC nilV nilS)).req), .string (((mkC nilV nilS)).key), .slice (nilS.ea) (nilV.ent.length) (nilS.ec), .slice (nilS.ma) (nilV.mrk.length) (nilS.mc), .slice (nilS.ca) (nilV.cl.length) (nilS.cc), .int .i64 (((mkC nilV nilS)).owner), .int .i64 (((mkC nilV nilS)).part), .int .i64 (((mkC nilV nilS)).n), .int .i64 ((((mkC nilV nilS)).ring).parts), .int .i64 ((((mkC nilV nilS)).ring).copies), .int .i64 ((((mkC nilV nilS)).ring).spots), .slice (nilS.ba) (nilV.mem.length) (nilS.bc), .slice (nilS.pa) (nilV.pe.length) (nilS.pc), .slice (nilS.sa) (nilV.su.length) (nilS.sc)], .int .i64 221] ∧ Ext w w'))) := by
  obtain ⟨hB, hP, hC, hM, hn1, hn2, hn3, hsb, hsp, hsc, hok⟩ := hD
  obtain ⟨hno1, hno2⟩ := hok.nodes
  obtain ⟨hnw1, hnw2⟩ := hok.now
  have hid0 := hok.id0
  have hl5 := hok.len
  rw [p_len] at hl5
  have hpl := pents_len ts
  refine calls_run (n := 25) Tryz.func42 rfl rfl rfl ?_
  refine Run.seq ?_
  refine Run.region ?_
  refine RL.st rfl <| St1.alloc ty57 ?_
  intro b_1 w_2 hl_5 hb_4 K_3
  replace hb_4 : Blk w_2 b_1 [.int .i64 (0), .int .i64 (0), .int .i64 (0), .int .i64 (0), .string (⟨#[]⟩), .slice (none) (0) (0), .slice (none) (0) (0), .slice (none) (0) (0), .int .i64 (0), .int .i64 (0), .int .i64 (0), .int .i64 (0), .int .i64 (0), .int .i64 (0), .slice (none) (0) (0), .slice (none) (0) (0), .slice (none) (0) (0)] 57 := hb_4
  have ne_6 : b < b_1 := Nat.lt_of_lt_of_le hB.lt hl_5
  have pr_7 : ¬ one pm b_1 := fun h => absurd (hP.own_lt _ h) (by omega)
  have pr_8 : ¬ one cm b_1 := fun h => absurd (hC.own_lt _ h) (by omega)
  have pr_9 : ¬ mgsS ts b_1 := fun h => absurd (hM.own_lt _ h) (by omega)
  have : w.heap.size ≤ b_1 := hl_5
  clear hl_5
  replace hB := hB.ext K_3
  replace hP := hP.ext K_3
  replace hC := hC.ext K_3
  replace hM := hM.ext K_3
  have K0 := (K_3 : Ext w _)
  refine RL.val (x_assignI rfl) ?_
  refine RL.nil ?_
  refine Run.seq ?_
  refine Run.seq ?_
  refine Run.region ?_
  refine RL.val (x_moveP rfl) ?_
  refine RL.st rfl <| St1.call (vals := [.pointer (some ⟨b, 0, none⟩)]) en31 rfl (made_ b pm cm nodes id now ts cs _ (⟨hB, hP, hC, hM, hn1, hn2, hn3, hsb, (fun h_ => (mp_of hsp) _ h_ rfl), (fun h_ => (mp_of hsc) _ h_ rfl), hok⟩ : WldO _ b pm cm nodes id now ts cs)) ?_
  rintro _ _ ⟨rfl, rfl⟩
  refine RL.val (x_not (b := true) rfl) ?_
  refine RL.nil ?_
  refine Run.condF rfl ?_
  refine Run.skip ?_
  refine Run.seq ?_
  by_cases hh : ∃ p ∈ ts, p.id = i
  · obtain ⟨p, hp, hpi⟩ := hh
    have hmg := mget_in (i := i) hok.rise hp hpi
    refine Run.region ?_
    refine RL.val (x_moveP rfl) ?_
    refine RL.val (x_nilCheck rfl) ?_
    refine RL.val (x_fld (o' := 1) Tryz.underlying64 rfl ty61 rfl rfl rfl) ?_
    refine RL.val (x_ld (v := .map (some pm)) ty61 rfl rfl (hB.cl.field (i := 1) rfl)) ?_
    refine RL.val (x_moveI rfl) ?_
    refine RL.val (litV (v' := .tuple #[.agg #[.int .i64 (((mkC p.v p.s)).kind), .int .i64 (((mkC p.v p.s)).frm), .int .i64 (((mkC p.v p.s)).to), .int .i64 (((mkC p.v p.s)).req), .string (((mkC p.v p.s)).key), .slice (p.s.ea) (p.v.ent.length) (p.s.ec), .slice (p.s.ma) (p.v.mrk.length) (p.s.mc), .slice (p.s.ca) (p.v.cl.length) (p.s.cc), .int .i64 (((mkC p.v p.s)).owner), .int .i64 (((mkC p.v p.s)).part), .int .i64 (((mkC p.v p.s)).n), .int .i64 ((((mkC p.v p.s)).ring).parts), .int .i64 ((((mkC p.v p.s)).ring).copies), .int .i64 ((((mkC p.v p.s)).ring).spots), .slice (p.s.ba) (p.v.mem.length) (p.s.bc), .slice (p.s.pa) (p.v.pe.length) (p.s.pc), .slice (p.s.sa) (p.v.su.length) (p.s.sc)], .bool (true)]) (x_lookupOk Tryz.underlying61 Tryz.underlying3 rfl ty57 rfl rfl hP) (by rw [hmg]; rfl)) ?_
    refine RL.val (x_moveT rfl) ?_
    refine RL.val (x_extract rfl rfl) ?_
    refine RL.val (x_extract rfl rfl) ?_
    refine RL.st rfl <| St1.alloc ty57 ?_
    intro b_10 w_11 hl_14 hb_13 K_12
    replace hb_13 : Blk w_11 b_10 [.int .i64 (0), .int .i64 (0), .int .i64 (0), .int .i64 (0), .string (⟨#[]⟩), .slice (none) (0) (0), .slice (none) (0) (0), .slice (none) (0) (0), .int .i64 (0), .int .i64 (0), .int .i64 (0), .int .i64 (0), .int .i64 (0), .int .i64 (0), .slice (none) (0) (0), .slice (none) (0) (0), .slice (none) (0) (0)] 57 := hb_13
    have ne_15 : b < b_10 := Nat.lt_of_lt_of_le hB.lt hl_14
    have ne_16 : b_1 < b_10 := Nat.lt_of_lt_of_le hb_4.lt hl_14
    have pr_17 : ¬ one pm b_10 := fun h => absurd (hP.own_lt _ h) (by omega)
    have pr_18 : ¬ one cm b_10 := fun h => absurd (hC.own_lt _ h) (by omega)
    have pr_19 : ¬ mgsS ts b_10 := fun h => absurd (hM.own_lt _ h) (by omega)
    have : w.heap.size ≤ b_10 := Nat.le_trans K0.size hl_14
    clear hl_14
    replace hB := hB.ext K_12
    replace hP := hP.ext K_12
    replace hC := hC.ext K_12
    replace hM := hM.ext K_12
    replace hb_4 := hb_4.ext K_12
    replace K0 := K0.ext K_12
    refine RL.st rfl <| St1.store (v := .agg #[.int .i64 (((mkC p.v p.s)).kind), .int .i64 (((mkC p.v p.s)).frm), .int .i64 (((mkC p.v p.s)).to), .int .i64 (((mkC p.v p.s)).req), .string (((mkC p.v p.s)).key), .slice (p.s.ea) (p.v.ent.length) (p.s.ec), .slice (p.s.ma) (p.v.mrk.length) (p.s.mc), .slice (p.s.ca) (p.v.cl.length) (p.s.cc), .int .i64 (((mkC p.v p.s)).owner), .int .i64 (((mkC p.v p.s)).part), .int .i64 (((mkC p.v p.s)).n), .int .i64 ((((mkC p.v p.s)).ring).parts), .int .i64 ((((mkC p.v p.s)).ring).copies), .int .i64 ((((mkC p.v p.s)).ring).spots), .slice (p.s.ba) (p.v.mem.length) (p.s.bc), .slice (p.s.pa) (p.v.pe.length) (p.s.pc), .slice (p.s.sa) (p.v.su.length) (p.s.sc)]) ty57 rfl rfl rfl (by simp [Value.cells, Value.oneCell']) hb_13 (by simp) ?_
    intro w_20 hb_13_ K_21
    have hb_13' : Blk w_20 b_10 [.int .i64 (((mkC p.v p.s)).kind), .int .i64 (((mkC p.v p.s)).frm), .int .i64 (((mkC p.v p.s)).to), .int .i64 (((mkC p.v p.s)).req), .string (((mkC p.v p.s)).key), .slice (p.s.ea) (p.v.ent.length) (p.s.ec), .slice (p.s.ma) (p.v.mrk.length) (p.s.mc), .slice (p.s.ca) (p.v.cl.length) (p.s.cc), .int .i64 (((mkC p.v p.s)).owner), .int .i64 (((mkC p.v p.s)).part), .int .i64 (((mkC p.v p.s)).n), .int .i64 ((((mkC p.v p.s)).ring).parts), .int .i64 ((((mkC p.v p.s)).ring).copies), .int .i64 ((((mkC p.v p.s)).ring).spots), .slice (p.s.ba) (p.v.mem.length) (p.s.bc), .slice (p.s.pa) (p.v.pe.length) (p.s.pc), .slice (p.s.sa) (p.v.su.length) (p.s.sc)] 57 := hb_13_
    clear hb_13_
    replace hB := hB.keep K_21 (by simp only [one]; omega)
    replace hP := hP.keepO K_21 (fun q_ hq_ eq_ => pr_17 (by simp only [one] at eq_; rw [← eq_]; exact hq_))
    replace hC := hC.keepO K_21 (fun q_ hq_ eq_ => pr_18 (by simp only [one] at eq_; rw [← eq_]; exact hq_))
    replace hM := hM.keepO K_21 (fun q_ hq_ eq_ => pr_19 (by simp only [one] at eq_; rw [← eq_]; exact hq_))
    replace hb_4 := hb_4.keep K_21 (by simp only [one]; omega)
    replace K0 := K0.new K_21 (fun x hx => by simp only [one] at hx; omega)
    replace hb_13 := hb_13'
    clear hb_13'
    refine RL.val (x_assignB rfl) ?_
    refine RL.nil ?_
    refine Run.seq ?_
    refine Run.seq ?_
    refine Run.region ?_
    refine RL.val (x_moveB rfl) ?_
    refine RL.val (x_not (b := true) rfl) ?_
    refine RL.nil ?_
    refine Run.condF rfl ?_
    refine Run.skip ?_
    refine Run.seq ?_
    refine Run.region ?_
    refine RL.val (x_lds (cs := #[.int .i64 (((mkC p.v p.s)).kind), .int .i64 (((mkC p.v p.s)).frm), .int .i64 (((mkC p.v p.s)).to), .int .i64 (((mkC p.v p.s)).req), .string (((mkC p.v p.s)).key), .slice (p.s.ea) (p.v.ent.length) (p.s.ec), .slice (p.s.ma) (p.v.mrk.length) (p.s.mc), .slice (p.s.ca) (p.v.cl.length) (p.s.cc), .int .i64 (((mkC p.v p.s)).owner), .int .i64 (((mkC p.v p.s)).part), .int .i64 (((mkC p.v p.s)).n), .int .i64 ((((mkC p.v p.s)).ring).parts), .int .i64 ((((mkC p.v p.s)).ring).copies), .int .i64 ((((mkC p.v p.s)).ring).spots), .slice (p.s.ba) (p.v.mem.length) (p.s.bc), .slice (p.s.pa) (p.v.pe.length) (p.s.pc), .slice (p.s.sa) (p.v.su.length) (p.s.sc)]) ty57 rfl rfl (hb_13.cl.drop 0 17)) ?_
    refine RL.st rfl <| St1.store (v := .agg #[.int .i64 (((mkC p.v p.s)).kind), .int .i64 (((mkC p.v p.s)).frm), .int .i64 (((mkC p.v p.s)).to), .int .i64 (((mkC p.v p.s)).req), .string (((mkC p.v p.s)).key), .slice (p.s.ea) (p.v.ent.length) (p.s.ec), .slice (p.s.ma) (p.v.mrk.length) (p.s.mc), .slice (p.s.ca) (p.v.cl.length) (p.s.cc), .int .i64 (((mkC p.v p.s)).owner), .int .i64 (((mkC p.v p.s)).part), .int .i64 (((mkC p.v p.s)).n), .int .i64 ((((mkC p.v p.s)).ring).parts), .int .i64 ((((mkC p.v p.s)).ring).copies), .int .i64 ((((mkC p.v p.s)).ring).spots), .slice (p.s.ba) (p.v.mem.length) (p.s.bc), .slice (p.s.pa) (p.v.pe.length) (p.s.pc), .slice (p.s.sa) (p.v.su.length) (p.s.sc)]) ty57 rfl rfl rfl (by simp [Value.cells, Value.oneCell']) hb_4 (by simp) ?_
    intro w_22 hb_4_ K_23
    have hb_4' : Blk w_22 b_1 [.int .i64 (((mkC p.v p.s)).kind), .int .i64 (((mkC p.v p.s)).frm), .int .i64 (((mkC p.v p.s)).to), .int .i64 (((mkC p.v p.s)).req), .string (((mkC p.v p.s)).key), .slice (p.s.ea) (p.v.ent.length) (p.s.ec), .slice (p.s.ma) (p.v.mrk.length) (p.s.mc), .slice (p.s.ca) (p.v.cl.length) (p.s.cc), .int .i64 (((mkC p.v p.s)).owner), .int .i64 (((mkC p.v p.s)).part), .int .i64 (((mkC p.v p.s)).n), .int .i64 ((((mkC p.v p.s)).ring).parts), .int .i64 ((((mkC p.v p.s)).ring).copies), .int .i64 ((((mkC p.v p.s)).ring).spots), .slice (p.s.ba) (p.v.mem.length) (p.s.bc), .slice (p.s.pa) (p.v.pe.length) (p.s.pc), .slice (p.s.sa) (p.v.su.length) (p.s.sc)] 57 := hb_4_
    clear hb_4_
    replace hB := hB.keep K_23 (by simp only [one]; omega)
    replace hP := hP.keepO K_23 (fun q_ hq_ eq_ => pr_7 (by simp only [one] at eq_; rw [← eq_]; exact hq_))
    replace hC := hC.keepO K_23 (fun q_ hq_ eq_ => pr_8 (by simp only [one] at eq_; rw [← eq_]; exact hq_))
    replace hM := hM.keepO K_23 (fun q_ hq_ eq_ => pr_9 (by simp only [one] at eq_; rw [← eq_]; exact hq_))
    replace hb_13 := hb_13.keep K_23 (by simp only [one]; omega)
    replace K0 := K0.new K_23 (fun x hx => by simp only [one] at hx; omega)
    replace hb_4 := hb_4'
    clear hb_4'
    refine RL.val (x_assignI rfl) ?_
    refine RL.nil ?_
    refine Run.retCT (x := .int .i64 (0)) (cs := #[.int .i64 (((mkC p.v p.s)).kind), .int .i64 (((mkC p.v p.s)).frm), .int .i64 (((mkC p.v p.s)).to), .int .i64 (((mkC p.v p.s)).req), .string (((mkC p.v p.s)).key), .slice (p.s.ea) (p.v.ent.length) (p.s.ec), .slice (p.s.ma) (p.v.mrk.length) (p.s.mc), .slice (p.s.ca) (p.v.cl.length) (p.s.cc), .int .i64 (((mkC p.v p.s)).owner), .int .i64 (((mkC p.v p.s)).part), .int .i64 (((mkC p.v p.s)).n), .int .i64 ((((mkC p.v p.s)).ring).parts), .int .i64 ((((mkC p.v p.s)).ring).copies), .int .i64 ((((mkC p.v p.s)).ring).spots), .slice (p.s.ba) (p.v.mem.length) (p.s.bc), .slice (p.s.pa) (p.v.pe.length) (p.s.pc), .slice (p.s.sa) (p.v.su.length) (p.s.sc)]) Tryz.func42 rfl ty57 rfl rfl hb_4.cl rfl ?_
    exact ⟨_, rfl, .inl ⟨p, hp, hpi, rfl, K0⟩⟩
  · have hmg := mget_no (i := i) hh
    refine Run.region ?_
    refine RL.val (x_moveP rfl) ?_
    refine RL.val (x_nilCheck rfl) ?_
    refine RL.val (x_fld (o' := 1) Tryz.underlying64 rfl ty61 rfl rfl rfl) ?_
    refine RL.val (x_ld (v := .map (some pm)) ty61 rfl rfl (hB.cl.field (i := 1) rfl)) ?_
    refine RL.val (x_moveI rfl) ?_
    refine RL.val (litV (v' := .tuple #[.agg #[.int .i64 (((mkC nilV nilS)).kind), .int .i64 (((mkC nilV nilS)).frm), .int .i64 (((mkC nilV nilS)).to), .int .i64 (((mkC nilV nilS)).req), .string (((mkC nilV nilS)).key), .slice (nilS.ea) (nilV.ent.length) (nilS.ec), .slice (nilS.ma) (nilV.mrk.length) (nilS.mc), .slice (nilS.ca) (nilV.cl.length) (nilS.cc), .int .i64 (((mkC nilV nilS)).owner), .int .i64 (((mkC nilV nilS)).part), .int .i64 (((mkC nilV nilS)).n), .int .i64 ((((mkC nilV nilS)).ring).parts), .int .i64 ((((mkC nilV nilS)).ring).copies), .int .i64 ((((mkC nilV nilS)).ring).spots), .slice (nilS.ba) (nilV.mem.length) (nilS.bc), .slice (nilS.pa) (nilV.pe.length) (nilS.pc), .slice (nilS.sa) (nilV.su.length) (nilS.sc)], .bool (false)]) (x_lookupOk Tryz.underlying61 Tryz.underlying3 rfl ty57 rfl rfl hP) (by rw [hmg]; rfl)) ?_
    refine RL.val (x_moveT rfl) ?_
    refine RL.val (x_extract rfl rfl) ?_
    refine RL.val (x_extract rfl rfl) ?_
    refine RL.st rfl <| St1.alloc ty57 ?_
    intro b_24 w_25 hl_28 hb_27 K_26
    replace hb_27 : Blk w_25 b_24 [.int .i64 (0), .int .i64 (0), .int .i64 (0), .int .i64 (0), .string (⟨#[]⟩), .slice (none) (0) (0), .slice (none) (0) (0), .slice (none) (0) (0), .int .i64 (0), .int .i64 (0), .int .i64 (0), .int .i64 (0), .int .i64 (0), .int .i64 (0), .slice (none) (0) (0), .slice (none) (0) (0), .slice (none) (0) (0)] 57 := hb_27
    have ne_29 : b < b_24 := Nat.lt_of_lt_of_le hB.lt hl_28
    have ne_30 : b_1 < b_24 := Nat.lt_of_lt_of_le hb_4.lt hl_28
    have pr_31 : ¬ one pm b_24 := fun h => absurd (hP.own_lt _ h) (by omega)
    have pr_32 : ¬ one cm b_24 := fun h => absurd (hC.own_lt _ h) (by omega)
    have pr_33 : ¬ mgsS ts b_24 := fun h => absurd (hM.own_lt _ h) (by omega)
    have : w.heap.size ≤ b_24 := Nat.le_trans K0.size hl_28
    clear hl_28
    replace hB := hB.ext K_26
    replace hP := hP.ext K_26
    replace hC := hC.ext K_26
    replace hM := hM.ext K_26
    replace hb_4 := hb_4.ext K_26
    replace K0 := K0.ext K_26
    refine RL.st rfl <| St1.store (v := .agg #[.int .i64 (((mkC nilV nilS)).kind), .int .i64 (((mkC nilV nilS)).frm), .int .i64 (((mkC nilV nilS)).to), .int .i64 (((mkC nilV nilS)).req), .string (((mkC nilV nilS)).key), .slice (nilS.ea) (nilV.ent.length) (nilS.ec), .slice (nilS.ma) (nilV.mrk.length) (nilS.mc), .slice (nilS.ca) (nilV.cl.length) (nilS.cc), .int .i64 (((mkC nilV nilS)).owner), .int .i64 (((mkC nilV nilS)).part), .int .i64 (((mkC nilV nilS)).n), .int .i64 ((((mkC nilV nilS)).ring).parts), .int .i64 ((((mkC nilV nilS)).ring).copies), .int .i64 ((((mkC nilV nilS)).ring).spots), .slice (nilS.ba) (nilV.mem.length) (nilS.bc), .slice (nilS.pa) (nilV.pe.length) (nilS.pc), .slice (nilS.sa) (nilV.su.length) (nilS.sc)]) ty57 rfl rfl rfl (by simp [Value.cells, Value.oneCell']) hb_27 (by simp) ?_
    intro w_34 hb_27_ K_35
    have hb_27' : Blk w_34 b_24 [.int .i64 (((mkC nilV nilS)).kind), .int .i64 (((mkC nilV nilS)).frm), .int .i64 (((mkC nilV nilS)).to), .int .i64 (((mkC nilV nilS)).req), .string (((mkC nilV nilS)).key), .slice (nilS.ea) (nilV.ent.length) (nilS.ec), .slice (nilS.ma) (nilV.mrk.length) (nilS.mc), .slice (nilS.ca) (nilV.cl.length) (nilS.cc), .int .i64 (((mkC nilV nilS)).owner), .int .i64 (((mkC nilV nilS)).part), .int .i64 (((mkC nilV nilS)).n), .int .i64 ((((mkC nilV nilS)).ring).parts), .int .i64 ((((mkC nilV nilS)).ring).copies), .int .i64 ((((mkC nilV nilS)).ring).spots), .slice (nilS.ba) (nilV.mem.length) (nilS.bc), .slice (nilS.pa) (nilV.pe.length) (nilS.pc), .slice (nilS.sa) (nilV.su.length) (nilS.sc)] 57 := hb_27_
    clear hb_27_
    replace hB := hB.keep K_35 (by simp only [one]; omega)
    replace hP := hP.keepO K_35 (fun q_ hq_ eq_ => pr_31 (by simp only [one] at eq_; rw [← eq_]; exact hq_))
    replace hC := hC.keepO K_35 (fun q_ hq_ eq_ => pr_32 (by simp only [one] at eq_; rw [← eq_]; exact hq_))
    replace hM := hM.keepO K_35 (fun q_ hq_ eq_ => pr_33 (by simp only [one] at eq_; rw [← eq_]; exact hq_))
    replace hb_4 := hb_4.keep K_35 (by simp only [one]; omega)
    replace K0 := K0.new K_35 (fun x hx => by simp only [one] at hx; omega)
    replace hb_27 := hb_27'
    clear hb_27'
    refine RL.val (x_assignB rfl) ?_
    refine RL.nil ?_
    refine Run.seq ?_
    refine Run.seq ?_
    refine Run.region ?_
    refine RL.val (x_moveB rfl) ?_
    refine RL.val (x_not (b := false) rfl) ?_
    refine RL.nil ?_
    refine Run.condT rfl ?_
    refine Run.seq ?_
    refine Run.region ?_
    refine RL.val (x_build (cells := #[.int .i64 (0), .int .i64 (0), .int .i64 (0), .int .i64 (0), .string (⟨#[]⟩), .slice (none) (0) (0), .slice (none) (0) (0), .slice (none) (0) (0), .int .i64 (0), .int .i64 (0), .int .i64 (0), .int .i64 (0), .int .i64 (0), .int .i64 (0), .slice (none) (0) (0), .slice (none) (0) (0), .slice (none) (0) (0)]) (by kernel_rfl)) ?_
    refine RL.st rfl <| St1.store (v := .agg #[.int .i64 (0), .int .i64 (0), .int .i64 (0), .int .i64 (0), .string (⟨#[]⟩), .slice (none) (0) (0), .slice (none) (0) (0), .slice (none) (0) (0), .int .i64 (0), .int .i64 (0), .int .i64 (0), .int .i64 (0), .int .i64 (0), .int .i64 (0), .slice (none) (0) (0), .slice (none) (0) (0), .slice (none) (0) (0)]) ty57 rfl rfl rfl (by simp [Value.cells, Value.oneCell']) hb_4 (by simp) ?_
    intro w_36 hb_4_ K_37
    have hb_4' : Blk w_36 b_1 [.int .i64 (0), .int .i64 (0), .int .i64 (0), .int .i64 (0), .string (⟨#[]⟩), .slice (none) (0) (0), .slice (none) (0) (0), .slice (none) (0) (0), .int .i64 (0), .int .i64 (0), .int .i64 (0), .int .i64 (0), .int .i64 (0), .int .i64 (0), .slice (none) (0) (0), .slice (none) (0) (0), .slice (none) (0) (0)] 57 := hb_4_
    clear hb_4_
    replace hB := hB.keep K_37 (by simp only [one]; omega)
    replace hP := hP.keepO K_37 (fun q_ hq_ eq_ => pr_7 (by simp only [one] at eq_; rw [← eq_]; exact hq_))
    replace hC := hC.keepO K_37 (fun q_ hq_ eq_ => pr_8 (by simp only [one] at eq_; rw [← eq_]; exact hq_))
    replace hM := hM.keepO K_37 (fun q_ hq_ eq_ => pr_9 (by simp only [one] at eq_; rw [← eq_]; exact hq_))
    replace hb_27 := hb_27.keep K_37 (by simp only [one]; omega)
    replace K0 := K0.new K_37 (fun x hx => by simp only [one] at hx; omega)
    replace hb_4 := hb_4'
    clear hb_4'
    refine RL.val (x_assignI rfl) ?_
    refine RL.nil ?_
    refine Run.retCT (x := .int .i64 (221)) (cs := #[.int .i64 (0), .int .i64 (0), .int .i64 (0), .int .i64 (0), .string (⟨#[]⟩), .slice (none) (0) (0), .slice (none) (0) (0), .slice (none) (0) (0), .int .i64 (0), .int .i64 (0), .int .i64 (0), .int .i64 (0), .int .i64 (0), .int .i64 (0), .slice (none) (0) (0), .slice (none) (0) (0), .slice (none) (0) (0)]) Tryz.func42 rfl ty57 rfl rfl hb_4.cl rfl ?_
    exact ⟨_, rfl, .inr ⟨hh, rfl, K0⟩⟩

set_option maxRecDepth 100000 in
set_option maxHeartbeats 4000000 in
theorem linkedNil  (x y : Int) (w : World) :
    Calls Tryz.prog 32 #[.pointer none, .int .i64 (x), .int .i64 (y)] w (Ret (fun v w' => v = .bool false ∧ Ext w w')) := by
  refine calls_run (n := 41) Tryz.func32 rfl rfl rfl ?_
  refine Run.seq ?_
  refine Run.region ?_
  refine RL.val (x_assignB rfl) ?_
  refine RL.nil ?_
  refine Run.seq ?_
  refine Run.seq ?_
  refine Run.region ?_
  refine RL.val (x_moveP rfl) ?_
  refine RL.st rfl <| St1.call (vals := [.pointer none]) en31 rfl (madeNil  _) ?_
  rintro _ w_1 ⟨rfl, K_2⟩
  have K0 := (K_2 : Ext w _)
  refine RL.val (x_not (b := false) rfl) ?_
  refine RL.val (x_moveB rfl) ?_
  refine RL.guardF (wantedF0 rfl rfl rfl rfl) ?_
  refine RL.guardF (wantedF0 rfl rfl rfl rfl) ?_
  refine RL.guardF (wantedF0 rfl rfl rfl rfl) ?_
  refine RL.guardF (wantedF0 rfl rfl rfl rfl) ?_
  refine RL.val (x_or (b := true) (e := false) rfl rfl rfl) ?_
  refine RL.val (x_moveB rfl) ?_
  refine RL.guardF (wantedF0 rfl rfl rfl rfl) ?_
  refine RL.guardF (wantedF0 rfl rfl rfl rfl) ?_
  refine RL.guardF (wantedF0 rfl rfl rfl rfl) ?_
  refine RL.guardF (wantedF0 rfl rfl rfl rfl) ?_
  refine RL.val (x_or (b := true) (e := false) rfl rfl rfl) ?_
  refine RL.nil ?_
  refine Run.condT rfl ?_
  refine Run.seq ?_
  refine Run.region ?_
  refine RL.val (x_assignB rfl) ?_
  refine RL.nil ?_
  refine Run.ret1 (v := .bool (false)) Tryz.func32 rfl rfl ?_
  exact ⟨_, rfl, rfl, K0⟩

set_option maxRecDepth 100000 in
set_option maxHeartbeats 4000000 in
theorem linkedZero (b : Nat) (x y : Int) (w : World) (hB : Blk w b [.int .i64 0, .map none, .map none, .int .i64 0, .int .i64 0] 64) :
    Calls Tryz.prog 32 #[.pointer (some ⟨b, 0, none⟩), .int .i64 (x), .int .i64 (y)] w (Ret (fun v w' => v = .bool false ∧ Ext w w')) := by
  refine calls_run (n := 41) Tryz.func32 rfl rfl rfl ?_
  refine Run.seq ?_
  refine Run.region ?_
  refine RL.val (x_assignB rfl) ?_
  refine RL.nil ?_
  refine Run.seq ?_
  refine Run.seq ?_
  refine Run.region ?_
  refine RL.val (x_moveP rfl) ?_
  refine RL.st rfl <| St1.call (vals := [.pointer (some ⟨b, 0, none⟩)]) en31 rfl (madeZero _  _ hB) ?_
  rintro _ w_1 ⟨rfl, K_2⟩
  replace hB := hB.ext K_2
  have K0 := (K_2 : Ext w _)
  refine RL.val (x_not (b := false) rfl) ?_
  refine RL.val (x_moveB rfl) ?_
  refine RL.guardF (wantedF0 rfl rfl rfl rfl) ?_
  refine RL.guardF (wantedF0 rfl rfl rfl rfl) ?_
  refine RL.guardF (wantedF0 rfl rfl rfl rfl) ?_
  refine RL.guardF (wantedF0 rfl rfl rfl rfl) ?_
  refine RL.val (x_or (b := true) (e := false) rfl rfl rfl) ?_
  refine RL.val (x_moveB rfl) ?_
  refine RL.guardF (wantedF0 rfl rfl rfl rfl) ?_
  refine RL.guardF (wantedF0 rfl rfl rfl rfl) ?_
  refine RL.guardF (wantedF0 rfl rfl rfl rfl) ?_
  refine RL.guardF (wantedF0 rfl rfl rfl rfl) ?_
  refine RL.val (x_or (b := true) (e := false) rfl rfl rfl) ?_
  refine RL.nil ?_
  refine Run.condT rfl ?_
  refine Run.seq ?_
  refine Run.region ?_
  refine RL.val (x_assignB rfl) ?_
  refine RL.nil ?_
  refine Run.ret1 (v := .bool (false)) Tryz.func32 rfl rfl ?_
  exact ⟨_, rfl, rfl, K0⟩

set_option maxRecDepth 100000 in
set_option maxHeartbeats 4000000 in
theorem linked_ (b pm cm : Nat) (nodes id now : Int) (ts : List Pk) (cs : List LinkC) (x y : Int) (w : World) (hD : WldO w b pm cm nodes id now ts cs) :
    Calls Tryz.prog 32 #[.pointer (some ⟨b, 0, none⟩), .int .i64 (x), .int .i64 (y)] w (Ret (fun v w' => v = .bool (linkedB nodes cs x y) ∧ Ext w w')) := by
  obtain ⟨hB, hP, hC, hM, hn1, hn2, hn3, hsb, hsp, hsc, hok⟩ := hD
  obtain ⟨hno1, hno2⟩ := hok.nodes
  obtain ⟨hnw1, hnw2⟩ := hok.now
  have hid0 := hok.id0
  have hl5 := hok.len
  rw [p_len] at hl5
  have hpl := pents_len ts
  refine calls_run (n := 41) Tryz.func32 rfl rfl rfl ?_
  refine Run.seq ?_
  refine Run.region ?_
  refine RL.val (x_assignB rfl) ?_
  refine RL.nil ?_
  refine Run.seq ?_
  refine Run.seq ?_
  refine Run.region ?_
  refine RL.val (x_moveP rfl) ?_
  refine RL.st rfl <| St1.call (vals := [.pointer (some ⟨b, 0, none⟩)]) en31 rfl (made_ b pm cm nodes id now ts cs _ (⟨hB, hP, hC, hM, hn1, hn2, hn3, hsb, (fun h_ => (mp_of hsp) _ h_ rfl), (fun h_ => (mp_of hsc) _ h_ rfl), hok⟩ : WldO _ b pm cm nodes id now ts cs)) ?_
  rintro _ _ ⟨rfl, rfl⟩
  refine RL.val (x_not (b := true) rfl) ?_
  refine RL.val (x_moveB rfl) ?_
  refine RL.gst (wantedF1 rfl rfl rfl rfl) <| St1.val (x_moveP rfl) ?_
  refine RL.gst (wantedF1 rfl rfl rfl rfl) <| St1.val (x_moveI rfl) ?_
  refine RL.gst (wantedF1 rfl rfl rfl rfl) <| St1.call (vals := [.pointer (some ⟨b, 0, none⟩), .int .i64 (x)]) en58 rfl (node_ b pm cm nodes id now ts cs x _ (⟨hB, hP, hC, hM, hn1, hn2, hn3, hsb, (fun h_ => (mp_of hsp) _ h_ rfl), (fun h_ => (mp_of hsc) _ h_ rfl), hok⟩ : WldO _ b pm cm nodes id now ts cs)) ?_
  rintro _ w_1 ⟨rfl, K_2⟩
  replace hB := hB.ext K_2
  replace hP := hP.ext K_2
  replace hC := hC.ext K_2
  replace hM := hM.ext K_2
  have K0 := (K_2 : Ext w _)
  refine RL.gst (wantedF1 rfl rfl rfl rfl) <| St1.val (x_not rfl) ?_
  refine RL.val (x_orF rfl rfl rfl) ?_
  refine RL.val (x_moveB rfl) ?_
  refine RL.gval (wantedF rfl rfl rfl rfl) (fun hg => (x_moveP rfl)) ?_
  refine RL.gval (wantedF rfl rfl rfl rfl) (fun hg => (x_moveI rfl)) ?_
  refine RL.gcall (vals := [.pointer (some ⟨b, 0, none⟩), .int .i64 (y)]) (wantedF rfl rfl rfl rfl) en58 (fun hg => (mcons (gvr hg) (mcons (gvr hg) mnil))) (fun hg => (node_ b pm cm nodes id now ts cs y _ (⟨hB, hP, hC, hM, hn1, hn2, hn3, hsb, (fun h_ => (mp_of hsp) _ h_ rfl), (fun h_ => (mp_of hsc) _ h_ rfl), hok⟩ : WldO _ b pm cm nodes id now ts cs))) ?_
  intro w_3 K_4
  replace hB := hB.ext K_4
  replace hP := hP.ext K_4
  replace hC := hC.ext K_4
  replace hM := hM.ext K_4
  replace K0 := K0.ext K_4
  refine RL.gval (wantedF rfl rfl rfl rfl) (fun hg => (x_not (gvr hg))) ?_
  refine RL.val (x_or rfl rfl rfl) ?_
  refine RL.nil ?_
  refine Run.cond rfl (fun hc23 => ?_) (fun hc23 => ?_)
  · try simp only [br] at hc23
    refine Run.seq ?_
    refine Run.region ?_
    refine RL.val (x_assignB rfl) ?_
    refine RL.nil ?_
    refine Run.ret1 (v := .bool (false)) Tryz.func32 rfl rfl ?_
    exact ⟨_, rfl, by rw [linked_no hc23], K0⟩
  · try simp only [br] at hc23
    refine Run.skip ?_
    refine Run.seq ?_
    refine Run.region ?_
    refine RL.val (x_moveP rfl) ?_
    refine RL.val (x_nilCheck rfl) ?_
    refine RL.val (x_fld (o' := 2) Tryz.underlying64 rfl ty62 rfl rfl rfl) ?_
    refine RL.val (x_ld (v := .map (some cm)) ty62 rfl rfl (hB.cl.field (i := 2) rfl)) ?_
    refine RL.val (x_moveI rfl) ?_
    refine RL.val (x_moveI rfl) ?_
    refine RL.val (x_minI rfl rfl) ?_
    refine RL.val (x_moveI rfl) ?_
    refine RL.val (x_moveI rfl) ?_
    refine RL.val (x_maxI rfl rfl) ?_
    refine RL.val (x_build (cells := #[.int .i64 (min x y), .int .i64 (max x y)]) (by kernel_rfl)) ?_
    refine RL.val (litV (v' := .tuple #[.agg #[], .bool (decide (lk x y ∈ cs))]) (x_lookupOk (a := lk x y) Tryz.underlying62 Tryz.underlying92 linkD ty111 rfl rfl hC) (by rw [cget]; split <;> rename_i h_ <;> simp [h_])) ?_
    refine RL.val (x_moveT rfl) ?_
    refine RL.val (x_extract rfl rfl) ?_
    refine RL.val (x_extract rfl rfl) ?_
    refine RL.st rfl <| St1.alloc ty111 ?_
    intro b_5 w_6 hl_9 hb_8 K_7
    replace hb_8 : Blk w_6 b_5 [] 111 := hb_8
    have ne_10 : b < b_5 := Nat.lt_of_lt_of_le hB.lt hl_9
    have pr_11 : ¬ one pm b_5 := fun h => absurd (hP.own_lt _ h) (by omega)
    have pr_12 : ¬ one cm b_5 := fun h => absurd (hC.own_lt _ h) (by omega)
    have pr_13 : ¬ mgsS ts b_5 := fun h => absurd (hM.own_lt _ h) (by omega)
    have : w.heap.size ≤ b_5 := Nat.le_trans K0.size hl_9
    clear hl_9
    replace hB := hB.ext K_7
    replace hP := hP.ext K_7
    replace hC := hC.ext K_7
    replace hM := hM.ext K_7
    replace K0 := K0.ext K_7
    refine RL.st rfl <| St1.store (v := .agg #[]) ty111 rfl rfl rfl (by simp [Value.cells, Value.oneCell']) hb_8 (by simp) ?_
    intro w_14 hb_8_ K_15
    have hb_8' : Blk w_14 b_5 [] 111 := hb_8_
    clear hb_8_
    replace hB := hB.keep K_15 (by simp only [one]; omega)
    replace hP := hP.keepO K_15 (fun q_ hq_ eq_ => pr_11 (by simp only [one] at eq_; rw [← eq_]; exact hq_))
    replace hC := hC.keepO K_15 (fun q_ hq_ eq_ => pr_12 (by simp only [one] at eq_; rw [← eq_]; exact hq_))
    replace hM := hM.keepO K_15 (fun q_ hq_ eq_ => pr_13 (by simp only [one] at eq_; rw [← eq_]; exact hq_))
    replace K0 := K0.new K_15 (fun x hx => by simp only [one] at hx; omega)
    replace hb_8 := hb_8'
    clear hb_8'
    refine RL.val (x_assignB rfl) ?_
    refine RL.nil ?_
    refine Run.seq ?_
    refine Run.region ?_
    refine RL.val (x_moveB rfl) ?_
    refine RL.val (x_not rfl) ?_
    refine RL.val (x_assignB rfl) ?_
    refine RL.nil ?_
    refine Run.ret1 (v := .bool (!(decide (lk x y ∈ cs)))) Tryz.func32 rfl rfl ?_
    exact ⟨_, rfl, by rw [linked_yes (by simp_all) (by simp_all)], K0⟩

set_option maxRecDepth 100000 in
set_option maxHeartbeats 4000000 in
theorem nowNil  (w : World) :
    Calls Tryz.prog 8 #[.pointer none] w (Ret (fun v w' => v = .int .i64 0 ∧ Ext w w')) := by
  refine calls_run (n := 10) Tryz.func8 rfl rfl rfl ?_
  refine Run.seq ?_
  refine Run.region ?_
  refine RL.val (x_assignI rfl) ?_
  refine RL.nil ?_
  refine Run.seq ?_
  refine Run.seq ?_
  refine Run.region ?_
  refine RL.val (x_moveP rfl) ?_
  refine RL.st rfl <| St1.call (vals := [.pointer none]) en31 rfl (madeNil  _) ?_
  rintro _ w_1 ⟨rfl, K_2⟩
  have K0 := (K_2 : Ext w _)
  refine RL.val (x_not (b := false) rfl) ?_
  refine RL.nil ?_
  refine Run.condT rfl ?_
  refine Run.seq ?_
  refine Run.region ?_
  refine RL.val (x_assignI rfl) ?_
  refine RL.nil ?_
  refine Run.ret1 (v := .int .i64 (0)) Tryz.func8 rfl rfl ?_
  exact ⟨_, rfl, rfl, K0⟩

set_option maxRecDepth 100000 in
set_option maxHeartbeats 4000000 in
theorem nowZero (b : Nat) (w : World) (hB : Blk w b [.int .i64 0, .map none, .map none, .int .i64 0, .int .i64 0] 64) :
    Calls Tryz.prog 8 #[.pointer (some ⟨b, 0, none⟩)] w (Ret (fun v w' => v = .int .i64 0 ∧ Ext w w')) := by
  refine calls_run (n := 10) Tryz.func8 rfl rfl rfl ?_
  refine Run.seq ?_
  refine Run.region ?_
  refine RL.val (x_assignI rfl) ?_
  refine RL.nil ?_
  refine Run.seq ?_
  refine Run.seq ?_
  refine Run.region ?_
  refine RL.val (x_moveP rfl) ?_
  refine RL.st rfl <| St1.call (vals := [.pointer (some ⟨b, 0, none⟩)]) en31 rfl (madeZero _  _ hB) ?_
  rintro _ w_1 ⟨rfl, K_2⟩
  replace hB := hB.ext K_2
  have K0 := (K_2 : Ext w _)
  refine RL.val (x_not (b := false) rfl) ?_
  refine RL.nil ?_
  refine Run.condT rfl ?_
  refine Run.seq ?_
  refine Run.region ?_
  refine RL.val (x_assignI rfl) ?_
  refine RL.nil ?_
  refine Run.ret1 (v := .int .i64 (0)) Tryz.func8 rfl rfl ?_
  exact ⟨_, rfl, rfl, K0⟩

set_option maxRecDepth 100000 in
set_option maxHeartbeats 4000000 in
theorem now_ (b pm cm : Nat) (nodes id now : Int) (ts : List Pk) (cs : List LinkC) (w : World) (hD : WldO w b pm cm nodes id now ts cs) :
    Calls Tryz.prog 8 #[.pointer (some ⟨b, 0, none⟩)] w (Ret (fun v w' => v = .int .i64 now ∧ Ext w w')) := by
  obtain ⟨hB, hP, hC, hM, hn1, hn2, hn3, hsb, hsp, hsc, hok⟩ := hD
  obtain ⟨hno1, hno2⟩ := hok.nodes
  obtain ⟨hnw1, hnw2⟩ := hok.now
  have hid0 := hok.id0
  have hl5 := hok.len
  rw [p_len] at hl5
  have hpl := pents_len ts
  refine calls_run (n := 10) Tryz.func8 rfl rfl rfl ?_
  refine Run.seq ?_
  refine Run.region ?_
  refine RL.val (x_assignI rfl) ?_
  refine RL.nil ?_
  refine Run.seq ?_
  refine Run.seq ?_
  refine Run.region ?_
  refine RL.val (x_moveP rfl) ?_
  refine RL.st rfl <| St1.call (vals := [.pointer (some ⟨b, 0, none⟩)]) en31 rfl (made_ b pm cm nodes id now ts cs _ (⟨hB, hP, hC, hM, hn1, hn2, hn3, hsb, (fun h_ => (mp_of hsp) _ h_ rfl), (fun h_ => (mp_of hsc) _ h_ rfl), hok⟩ : WldO _ b pm cm nodes id now ts cs)) ?_
  rintro _ _ ⟨rfl, rfl⟩
  refine RL.val (x_not (b := true) rfl) ?_
  refine RL.nil ?_
  refine Run.condF rfl ?_
  refine Run.skip ?_
  refine Run.seq ?_
  refine Run.region ?_
  refine RL.val (x_moveP rfl) ?_
  refine RL.val (x_nilCheck rfl) ?_
  refine RL.val (x_fld (o' := 4) Tryz.underlying64 rfl ty3 rfl rfl rfl) ?_
  refine RL.val (x_ld (v := .int .i64 (now)) ty3 rfl rfl (hB.cl.field (i := 4) rfl)) ?_
  refine RL.val (x_assignI rfl) ?_
  refine RL.nil ?_
  refine Run.ret1 (v := .int .i64 (now)) Tryz.func8 rfl rfl ?_
  exact ⟨_, rfl, rfl, (Keeps.refl _ w)⟩

set_option maxRecDepth 100000 in
set_option maxHeartbeats 4000000 in
theorem passNil  (i : Int) (w : World) :
    Calls Tryz.prog 15 #[.pointer none, .int .i64 (i)] w (Ret (fun v w' => v = .int .i64 8 ∧ Ext w w')) := by
  refine calls_run (n := 27) Tryz.func15 rfl rfl rfl ?_
  refine Run.seq ?_
  refine Run.region ?_
  refine RL.val (x_assignI rfl) ?_
  refine RL.nil ?_
  refine Run.seq ?_
  refine Run.seq ?_
  refine Run.region ?_
  refine RL.val (x_moveP rfl) ?_
  refine RL.st rfl <| St1.call (vals := [.pointer none]) en31 rfl (madeNil  _) ?_
  rintro _ w_1 ⟨rfl, K_2⟩
  have K0 := (K_2 : Ext w _)
  refine RL.val (x_not (b := false) rfl) ?_
  refine RL.nil ?_
  refine Run.condT rfl ?_
  refine Run.seq ?_
  refine Run.region ?_
  refine RL.val (x_assignI rfl) ?_
  refine RL.nil ?_
  refine Run.ret1 (v := .int .i64 (8)) Tryz.func15 rfl rfl ?_
  exact ⟨_, rfl, rfl, K0⟩

set_option maxRecDepth 100000 in
set_option maxHeartbeats 4000000 in
theorem passZero (b : Nat) (i : Int) (w : World) (hB : Blk w b [.int .i64 0, .map none, .map none, .int .i64 0, .int .i64 0] 64) :
    Calls Tryz.prog 15 #[.pointer (some ⟨b, 0, none⟩), .int .i64 (i)] w (Ret (fun v w' => v = .int .i64 8 ∧ Ext w w')) := by
  refine calls_run (n := 27) Tryz.func15 rfl rfl rfl ?_
  refine Run.seq ?_
  refine Run.region ?_
  refine RL.val (x_assignI rfl) ?_
  refine RL.nil ?_
  refine Run.seq ?_
  refine Run.seq ?_
  refine Run.region ?_
  refine RL.val (x_moveP rfl) ?_
  refine RL.st rfl <| St1.call (vals := [.pointer (some ⟨b, 0, none⟩)]) en31 rfl (madeZero _  _ hB) ?_
  rintro _ w_1 ⟨rfl, K_2⟩
  replace hB := hB.ext K_2
  have K0 := (K_2 : Ext w _)
  refine RL.val (x_not (b := false) rfl) ?_
  refine RL.nil ?_
  refine Run.condT rfl ?_
  refine Run.seq ?_
  refine Run.region ?_
  refine RL.val (x_assignI rfl) ?_
  refine RL.nil ?_
  refine Run.ret1 (v := .int .i64 (8)) Tryz.func15 rfl rfl ?_
  exact ⟨_, rfl, rfl, K0⟩

set_option maxRecDepth 100000 in
set_option maxHeartbeats 4000000 in
theorem pass_ (b pm cm : Nat) (nodes id now : Int) (ts : List Pk) (cs : List LinkC) (i : Int) (w : World) (hD : WldO w b pm cm nodes id now ts cs) :
    Calls Tryz.prog 15 #[.pointer (some ⟨b, 0, none⟩), .int .i64 (i)] w (Ret (fun v w' => v = .int .i64 (passE now i) ∧ WldO w' b pm cm nodes id (passN now i) ts cs ∧ Keeps (wF b pm cm) w w')) := by
  obtain ⟨hB, hP, hC, hM, hn1, hn2, hn3, hsb, hsp, hsc, hok⟩ := hD
  obtain ⟨hno1, hno2⟩ := hok.nodes
  obtain ⟨hnw1, hnw2⟩ := hok.now
  have hid0 := hok.id0
  have hl5 := hok.len
  rw [p_len] at hl5
  have hpl := pents_len ts
  refine calls_run (n := 27) Tryz.func15 rfl rfl rfl ?_
  refine Run.seq ?_
  refine Run.region ?_
  refine RL.val (x_assignI rfl) ?_
  refine RL.nil ?_
  refine Run.seq ?_
  refine Run.seq ?_
  refine Run.region ?_
  refine RL.val (x_moveP rfl) ?_
  refine RL.st rfl <| St1.call (vals := [.pointer (some ⟨b, 0, none⟩)]) en31 rfl (made_ b pm cm nodes id now ts cs _ (⟨hB, hP, hC, hM, hn1, hn2, hn3, hsb, (fun h_ => (mp_of hsp) _ h_ rfl), (fun h_ => (mp_of hsc) _ h_ rfl), hok⟩ : WldO _ b pm cm nodes id now ts cs)) ?_
  rintro _ _ ⟨rfl, rfl⟩
  refine RL.val (x_not (b := true) rfl) ?_
  refine RL.nil ?_
  refine Run.condF rfl ?_
  refine Run.skip ?_
  refine Run.seq ?_
  refine Run.seq ?_
  refine Run.region ?_
  refine RL.val (x_moveI rfl) ?_
  refine RL.val (x_ltI rfl rfl) ?_
  refine RL.val (x_moveB rfl) ?_
  refine RL.gval (wantedF rfl rfl rfl rfl) (fun hg => (x_moveI rfl)) ?_
  refine RL.gval (wantedF rfl rfl rfl rfl) (fun hg => (x_moveP rfl)) ?_
  refine RL.gval (wantedF rfl rfl rfl rfl) (fun hg => (x_nilCheck (gvr hg))) ?_
  refine RL.gval (wantedF rfl rfl rfl rfl) (fun hg => (x_fld (o' := 4) Tryz.underlying64 rfl ty3 rfl (gvr hg) rfl)) ?_
  refine RL.gval (wantedF rfl rfl rfl rfl) (fun hg => (x_ld (v := .int .i64 (now)) ty3 (gvr hg) rfl (hB.cl.field (i := 4) rfl))) ?_
  refine RL.gval (wantedF rfl rfl rfl rfl) (fun hg => (x_sub rfl (gvr hg) (by omega) (by omega))) ?_
  refine RL.gval (wantedF rfl rfl rfl rfl) (fun hg => (x_gtI (gvr hg) (gvr hg))) ?_
  refine RL.val (x_or rfl rfl rfl) ?_
  refine RL.nil ?_
  refine Run.cond rfl (fun hc18 => ?_) (fun hc18 => ?_)
  · try simp only [br] at hc18
    refine Run.seq ?_
    refine Run.region ?_
    refine RL.val (x_assignI rfl) ?_
    refine RL.nil ?_
    refine Run.ret1 (v := .int .i64 (1)) Tryz.func15 rfl rfl ?_
    have e := pass_no (now := now) (a := i) hc18
    rw [e.1, e.2]
    exact ⟨_, rfl, rfl, ⟨hB, hP, hC, hM, hn1, hn2, hn3, hsb, hsp, hsc, hok⟩, Keeps.refl _ w⟩
  · try simp only [br] at hc18
    refine Run.skip ?_
    refine Run.seq ?_
    refine Run.region ?_
    refine RL.val (x_moveP rfl) ?_
    refine RL.val (x_nilCheck rfl) ?_
    refine RL.val (x_fld (o' := 4) Tryz.underlying64 rfl ty3 rfl rfl rfl) ?_
    refine RL.val (x_ld (v := .int .i64 (now)) ty3 rfl rfl (hB.cl.field (i := 4) rfl)) ?_
    refine RL.val (x_moveI rfl) ?_
    refine RL.val (x_add rfl rfl (by omega) (by omega)) ?_
    refine RL.val (x_nilCheck rfl) ?_
    refine RL.val (x_fld (o' := 4) Tryz.underlying64 rfl ty3 rfl rfl rfl) ?_
    refine RL.st rfl <| St1.store (v := .int .i64 (now + i)) ty3 rfl rfl rfl (by simp [Value.cells, Value.oneCell']) hB (by simp) ?_
    intro w_1 hB_ K_2
    have hB' : Blk w_1 b [.int .i64 (nodes), .map (some pm), .map (some cm), .int .i64 (id), .int .i64 (now + i)] 64 := hB_
    clear hB_
    replace hP := hP.keepO K_2 (fun q_ hq_ eq_ => hn1 (by simp only [one] at eq_; rw [← eq_]; exact hq_))
    replace hC := hC.keepO K_2 (fun q_ hq_ eq_ => hn2 (by simp only [one] at eq_; rw [← eq_]; exact hq_))
    replace hM := hM.keepO K_2 (fun q_ hq_ eq_ => hsb (by simp only [one] at eq_; rw [← eq_]; exact hq_))
    have K0 := (Keeps.refl (wF b pm cm) w).trans K_2 (fun x _ hx => by simp only [one] at hx; subst hx; exact wf_b)
    replace hB := hB'
    clear hB'
    refine RL.nil ?_
    refine Run.seq ?_
    refine Run.region ?_
    refine RL.val (x_assignI rfl) ?_
    refine RL.nil ?_
    refine Run.ret1 (v := .int .i64 (0)) Tryz.func15 rfl rfl ?_
    have e := pass_ok (now := now) (a := i) (by omega)
    rw [e.1, e.2]
    exact ⟨_, rfl, rfl, ⟨hB, hP, hC, hM, hn1, hn2, hn3, hsb, hsp, hsc, (hok.pass (by omega) (by omega))⟩, K0⟩

set_option maxRecDepth 100000 in
set_option maxHeartbeats 4000000 in
theorem new_ (nodes : Int) (w : World) :
    Calls Tryz.prog 4 #[.int .i64 (nodes)] w (Ret (fun v w' => (¬ (1 ≤ nodes ∧ nodes ≤ 8) ∧ v = .tuple #[.pointer none, .int .i64 1] ∧ Ext w w') ∨ ((1 ≤ nodes ∧ nodes ≤ 8) ∧ ∃ b pm cm, v = .tuple #[.pointer (some ⟨b, 0, none⟩), .int .i64 0] ∧ WldO w' b pm cm nodes 0 0 [] [] ∧ (∀ q, wS b pm cm [] q → w.heap.size ≤ q) ∧ Ext w w'))) := by
  refine calls_run (n := 15) Tryz.func4 rfl rfl rfl ?_
  refine Run.seq ?_
  refine Run.region ?_
  refine RL.val (x_assignP rfl) ?_
  refine RL.val (x_assignI rfl) ?_
  refine RL.nil ?_
  refine Run.seq ?_
  refine Run.seq ?_
  refine Run.region ?_
  refine RL.val (x_moveI rfl) ?_
  refine RL.val (x_ltI rfl rfl) ?_
  refine RL.val (x_moveB rfl) ?_
  refine RL.gval (wantedF rfl rfl rfl rfl) (fun hg => (x_moveI rfl)) ?_
  refine RL.gval (wantedF rfl rfl rfl rfl) (fun hg => (x_gtI (gvr hg) rfl)) ?_
  refine RL.val (x_or rfl rfl rfl) ?_
  refine RL.nil ?_
  refine Run.cond rfl (fun hc9 => ?_) (fun hc9 => ?_)
  · try simp only [br] at hc9
    refine Run.seq ?_
    refine Run.region ?_
    refine RL.val (x_assignP rfl) ?_
    refine RL.val (x_assignI rfl) ?_
    refine RL.nil ?_
    refine Run.ret2 (v := .pointer none) (x := .int .i64 (1)) Tryz.func4 rfl rfl rfl ?_
    exact ⟨_, rfl, .inl ⟨by omega, rfl, Keeps.refl _ w⟩⟩
  · try simp only [br] at hc9
    refine Run.skip ?_
    refine Run.seq ?_
    refine Run.region ?_
    refine RL.val (x_moveI rfl) ?_
    refine RL.st rfl <| St1.makeMap (κ := Int) ?_
    intro m_1 w_2 hl_3 hM_4 K_5
    have pg_6 : ∀ q_, one m_1 q_ → w.heap.size ≤ q_ := fun q_ h => Nat.le_trans (Nat.le_refl _) ((ge_one hl_3) q_ h)
    clear hl_3
    have K0 := (K_5 : Ext w _)
    refine RL.st rfl <| St1.makeMap (κ := LinkC) ?_
    intro m_7 w_8 hl_9 hM_10 K_11
    have pr_12 : ∀ q_, one m_7 q_ → ¬ one m_1 q_ := apartNew (ge_one hl_9) hM_4.own_lt
    have pg_13 : ∀ q_, one m_7 q_ → w.heap.size ≤ q_ := fun q_ h => Nat.le_trans K0.size ((ge_one hl_9) q_ h)
    clear hl_9
    replace hM_4 := hM_4.ext K_11
    replace K0 := K0.ext K_11
    refine RL.val (x_build (cells := #[.int .i64 (nodes), .map (some m_1), .map (some m_7), .int .i64 (0), .int .i64 (0)]) (by kernel_rfl)) ?_
    refine RL.st rfl <| St1.box (v := .agg #[.int .i64 (nodes), .map (some m_1), .map (some m_7), .int .i64 (0), .int .i64 (0)]) rfl ?_
    intro b_14 w_15 hl_18 hb_17 K_16
    replace hb_17 : Blk w_15 b_14 [.int .i64 (nodes), .map (some m_1), .map (some m_7), .int .i64 (0), .int .i64 (0)] 64 := hb_17
    have pr_19 : ¬ one m_1 b_14 := fun h => absurd (hM_4.own_lt _ h) (by omega)
    have pr_20 : ¬ one m_7 b_14 := fun h => absurd (hM_10.own_lt _ h) (by omega)
    have : w.heap.size ≤ b_14 := Nat.le_trans K0.size hl_18
    clear hl_18
    replace hM_4 := hM_4.ext K_16
    replace hM_10 := hM_10.ext K_16
    replace K0 := K0.ext K_16
    refine RL.val (x_assignP rfl) ?_
    refine RL.val (x_assignI rfl) ?_
    refine RL.nil ?_
    refine Run.ret2 (v := .pointer (some ⟨b_14, 0, none⟩)) (x := .int .i64 (0)) Tryz.func4 rfl rfl rfl ?_
    exact ⟨_, rfl, .inr ⟨by omega, b_14, m_1, m_7, rfl, ⟨hb_17, hM_4, hM_10, MgsAt.nil _, fun e => pr_19 e, fun e => pr_20 e, fun e => pr_12 _ rfl e.symm, fun ⟨_, h, _⟩ => absurd h (by simp), fun ⟨_, h, _⟩ => absurd h (by simp), fun ⟨_, h, _⟩ => absurd h (by simp), ⟨by omega, by omega, by omega, List.Pairwise.nil, fun _ h => absurd h (by simp), by simp⟩⟩, fun q h => h.elim (fun e => by rw [e]; omega) (fun h => h.elim (fun e => pg_6 q e) (fun h => h.elim (fun e => pg_13 q e) (fun ⟨_, h, _⟩ => absurd h (by simp)))), K0⟩⟩

end Go.Proofs.YtdlaoncjiolckaaGreat
