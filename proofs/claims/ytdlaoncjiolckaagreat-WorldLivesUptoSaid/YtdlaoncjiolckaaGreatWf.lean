/-
  Layer 22's walks, fifth part: Take, Lose, Twice, Send.
-/
import Derived.Test.YtdlaoncjiolckaaGreatRows
import Derived.Test.YtdlaoncjiolckaaGreatWe4
namespace Go.Proofs.YtdlaoncjiolckaaGreat
attribute [local irreducible] St1 RL RA RT RT1 Run

section
variable {w : World} {p : Pk} {ts us l1 l2 : List Pk} {b pm cm : Nat} {s : Six} {nodes id now : Int} {cs : List LinkC}
theorem ms_wF (h1 : ¬ mgsS us b) (h2 : ∀ q, mgsS us q → ¬ one pm q) (h3 : ∀ q, mgsS us q → ¬ one cm q) : ∀ q, mgsS us q → ¬ wF b pm cm q := by
  rintro q h (rfl | h4 | h4)
  · exact h1 h
  · exact h2 q h h4
  · exact h3 q h h4
theorem own_apart (h1 : ¬ ownS s b) (h2 : ∀ q, ownS s q → ¬ one pm q) (h3 : ∀ q, ownS s q → ¬ one cm q) (h4 : ∀ q, mgsS us q → ¬ ownS s q) : ∀ q, ownS s q → ¬ wS b pm cm us q := by
  rintro q h (rfl | rfl | rfl | h5)
  · exact h1 h
  · exact h2 _ h rfl
  · exact h3 _ h rfl
  · exact h4 q h5 h
end

theorem en32 : Enters Tryz.prog 32 := enters_of Tryz.func32 rfl (by kernel_rfl)
theorem en40 : Enters Tryz.prog 40 := enters_of Tryz.func40 rfl (by kernel_rfl)
theorem en41 : Enters Tryz.prog 41 := enters_of Tryz.func41 rfl (by kernel_rfl)
theorem en42 : Enters Tryz.prog 42 := enters_of Tryz.func42 rfl (by kernel_rfl)

set_option maxRecDepth 100000 in
set_option maxHeartbeats 4000000 in
theorem takeNil  (i : Int) (w : World) :
    Calls Tryz.prog 14 #[.pointer none, .int .i64 (i)] w (Ret (fun v w' => v = .tuple #[.agg #[.int .i64 (((mkC nilV nilS)).kind), .int .i64 (((mkC nilV nilS)).frm), .int .i64 (((mkC nilV nilS)).to), .int .i64 (((mkC nilV nilS)).req), .string (((mkC nilV nilS)).key), .slice (nilS.ea) (nilV.ent.length) (nilS.ec), .slice (nilS.ma) (nilV.mrk.length) (nilS.mc), .slice (nilS.ca) (nilV.cl.length) (nilS.cc), .int .i64 (((mkC nilV nilS)).owner), .int .i64 (((mkC nilV nilS)).part), .int .i64 (((mkC nilV nilS)).n), .int .i64 ((((mkC nilV nilS)).ring).parts), .int .i64 ((((mkC nilV nilS)).ring).copies), .int .i64 ((((mkC nilV nilS)).ring).spots), .slice (nilS.ba) (nilV.mem.length) (nilS.bc), .slice (nilS.pa) (nilV.pe.length) (nilS.pc), .slice (nilS.sa) (nilV.su.length) (nilS.sc)], .int .i64 8] ∧ Ext w w')) := by
  refine calls_run (n := 32) Tryz.func14 rfl rfl rfl ?_
  refine Run.seq ?_
  refine Run.region ?_
  refine RL.st rfl <| St1.alloc ty57 ?_
  intro b_1 w_2 hl_5 hb_4 K_3
  replace hb_4 : Blk w_2 b_1 [.int .i64 (0), .int .i64 (0), .int .i64 (0), .int .i64 (0), .string (⟨#[]⟩), .slice (none) (0) (0), .slice (none) (0) (0), .slice (none) (0) (0), .int .i64 (0), .int .i64 (0), .int .i64 (0), .int .i64 (0), .int .i64 (0), .int .i64 (0), .slice (none) (0) (0), .slice (none) (0) (0), .slice (none) (0) (0)] 57 := hb_4
  have : w.heap.size ≤ b_1 := hl_5
  clear hl_5
  have K0 := (K_3 : Ext w _)
  refine RL.val (x_assignI rfl) ?_
  refine RL.nil ?_
  refine Run.seq ?_
  refine Run.region ?_
  refine RL.val (x_moveP rfl) ?_
  refine RL.val (x_moveI rfl) ?_
  refine RL.st rfl <| St1.call (vals := [.pointer none, .int .i64 (i)]) en42 rfl (lookNil _ _) ?_
  rintro _ w_6 ⟨rfl, K_7⟩
  replace hb_4 := hb_4.ext K_7
  replace K0 := K0.ext K_7
  refine RL.val (x_moveT rfl) ?_
  refine RL.val (x_extract rfl rfl) ?_
  refine RL.val (x_extract rfl rfl) ?_
  refine RL.st rfl <| St1.alloc ty57 ?_
  intro b_8 w_9 hl_12 hb_11 K_10
  replace hb_11 : Blk w_9 b_8 [.int .i64 (0), .int .i64 (0), .int .i64 (0), .int .i64 (0), .string (⟨#[]⟩), .slice (none) (0) (0), .slice (none) (0) (0), .slice (none) (0) (0), .int .i64 (0), .int .i64 (0), .int .i64 (0), .int .i64 (0), .int .i64 (0), .int .i64 (0), .slice (none) (0) (0), .slice (none) (0) (0), .slice (none) (0) (0)] 57 := hb_11
  have ne_13 : b_1 < b_8 := Nat.lt_of_lt_of_le hb_4.lt hl_12
  have : w.heap.size ≤ b_8 := Nat.le_trans K0.size hl_12
  clear hl_12
  replace hb_4 := hb_4.ext K_10
  replace K0 := K0.ext K_10
  refine RL.st rfl <| St1.store (v := .agg #[.int .i64 (((mkC nilV nilS)).kind), .int .i64 (((mkC nilV nilS)).frm), .int .i64 (((mkC nilV nilS)).to), .int .i64 (((mkC nilV nilS)).req), .string (((mkC nilV nilS)).key), .slice (nilS.ea) (nilV.ent.length) (nilS.ec), .slice (nilS.ma) (nilV.mrk.length) (nilS.mc), .slice (nilS.ca) (nilV.cl.length) (nilS.cc), .int .i64 (((mkC nilV nilS)).owner), .int .i64 (((mkC nilV nilS)).part), .int .i64 (((mkC nilV nilS)).n), .int .i64 ((((mkC nilV nilS)).ring).parts), .int .i64 ((((mkC nilV nilS)).ring).copies), .int .i64 ((((mkC nilV nilS)).ring).spots), .slice (nilS.ba) (nilV.mem.length) (nilS.bc), .slice (nilS.pa) (nilV.pe.length) (nilS.pc), .slice (nilS.sa) (nilV.su.length) (nilS.sc)]) ty57 rfl rfl rfl (by simp [Value.cells, Value.oneCell']) hb_11 (by simp) ?_
  intro w_14 hb_11_ K_15
  have hb_11' : Blk w_14 b_8 [.int .i64 (((mkC nilV nilS)).kind), .int .i64 (((mkC nilV nilS)).frm), .int .i64 (((mkC nilV nilS)).to), .int .i64 (((mkC nilV nilS)).req), .string (((mkC nilV nilS)).key), .slice (nilS.ea) (nilV.ent.length) (nilS.ec), .slice (nilS.ma) (nilV.mrk.length) (nilS.mc), .slice (nilS.ca) (nilV.cl.length) (nilS.cc), .int .i64 (((mkC nilV nilS)).owner), .int .i64 (((mkC nilV nilS)).part), .int .i64 (((mkC nilV nilS)).n), .int .i64 ((((mkC nilV nilS)).ring).parts), .int .i64 ((((mkC nilV nilS)).ring).copies), .int .i64 ((((mkC nilV nilS)).ring).spots), .slice (nilS.ba) (nilV.mem.length) (nilS.bc), .slice (nilS.pa) (nilV.pe.length) (nilS.pc), .slice (nilS.sa) (nilV.su.length) (nilS.sc)] 57 := hb_11_
  clear hb_11_
  replace hb_4 := hb_4.keep K_15 (by simp only [one]; omega)
  replace K0 := K0.new K_15 (fun x hx => by simp only [one] at hx; omega)
  replace hb_11 := hb_11'
  clear hb_11'
  refine RL.val (x_assignI rfl) ?_
  refine RL.nil ?_
  refine Run.seq ?_
  refine Run.seq ?_
  refine Run.region ?_
  refine RL.val (x_moveI rfl) ?_
  refine RL.val (litT (x_neI rfl rfl) (by decide)) ?_
  refine RL.nil ?_
  refine Run.condT rfl ?_
  refine Run.seq ?_
  refine Run.region ?_
  refine RL.val (x_build (cells := #[.int .i64 (0), .int .i64 (0), .int .i64 (0), .int .i64 (0), .string (⟨#[]⟩), .slice (none) (0) (0), .slice (none) (0) (0), .slice (none) (0) (0), .int .i64 (0), .int .i64 (0), .int .i64 (0), .int .i64 (0), .int .i64 (0), .int .i64 (0), .slice (none) (0) (0), .slice (none) (0) (0), .slice (none) (0) (0)]) (by kernel_rfl)) ?_
  refine RL.val (x_moveI rfl) ?_
  refine RL.st rfl <| St1.store (v := .agg #[.int .i64 (0), .int .i64 (0), .int .i64 (0), .int .i64 (0), .string (⟨#[]⟩), .slice (none) (0) (0), .slice (none) (0) (0), .slice (none) (0) (0), .int .i64 (0), .int .i64 (0), .int .i64 (0), .int .i64 (0), .int .i64 (0), .int .i64 (0), .slice (none) (0) (0), .slice (none) (0) (0), .slice (none) (0) (0)]) ty57 rfl rfl rfl (by simp [Value.cells, Value.oneCell']) hb_4 (by simp) ?_
  intro w_16 hb_4_ K_17
  have hb_4' : Blk w_16 b_1 [.int .i64 (0), .int .i64 (0), .int .i64 (0), .int .i64 (0), .string (⟨#[]⟩), .slice (none) (0) (0), .slice (none) (0) (0), .slice (none) (0) (0), .int .i64 (0), .int .i64 (0), .int .i64 (0), .int .i64 (0), .int .i64 (0), .int .i64 (0), .slice (none) (0) (0), .slice (none) (0) (0), .slice (none) (0) (0)] 57 := hb_4_
  clear hb_4_
  replace hb_11 := hb_11.keep K_17 (by simp only [one]; omega)
  replace K0 := K0.new K_17 (fun x hx => by simp only [one] at hx; omega)
  replace hb_4 := hb_4'
  clear hb_4'
  refine RL.val (x_assignI rfl) ?_
  refine RL.nil ?_
  refine Run.retCT (x := .int .i64 (8)) (cs := #[.int .i64 (0), .int .i64 (0), .int .i64 (0), .int .i64 (0), .string (⟨#[]⟩), .slice (none) (0) (0), .slice (none) (0) (0), .slice (none) (0) (0), .int .i64 (0), .int .i64 (0), .int .i64 (0), .int .i64 (0), .int .i64 (0), .int .i64 (0), .slice (none) (0) (0), .slice (none) (0) (0), .slice (none) (0) (0)]) Tryz.func14 rfl ty57 rfl rfl hb_4.cl rfl ?_
  exact ⟨_, rfl, rfl, K0⟩

set_option maxRecDepth 100000 in
set_option maxHeartbeats 4000000 in
theorem takeZero (b : Nat) (i : Int) (w : World) (hB : Blk w b [.int .i64 0, .map none, .map none, .int .i64 0, .int .i64 0] 64) :
    Calls Tryz.prog 14 #[.pointer (some ⟨b, 0, none⟩), .int .i64 (i)] w (Ret (fun v w' => v = .tuple #[.agg #[.int .i64 (((mkC nilV nilS)).kind), .int .i64 (((mkC nilV nilS)).frm), .int .i64 (((mkC nilV nilS)).to), .int .i64 (((mkC nilV nilS)).req), .string (((mkC nilV nilS)).key), .slice (nilS.ea) (nilV.ent.length) (nilS.ec), .slice (nilS.ma) (nilV.mrk.length) (nilS.mc), .slice (nilS.ca) (nilV.cl.length) (nilS.cc), .int .i64 (((mkC nilV nilS)).owner), .int .i64 (((mkC nilV nilS)).part), .int .i64 (((mkC nilV nilS)).n), .int .i64 ((((mkC nilV nilS)).ring).parts), .int .i64 ((((mkC nilV nilS)).ring).copies), .int .i64 ((((mkC nilV nilS)).ring).spots), .slice (nilS.ba) (nilV.mem.length) (nilS.bc), .slice (nilS.pa) (nilV.pe.length) (nilS.pc), .slice (nilS.sa) (nilV.su.length) (nilS.sc)], .int .i64 8] ∧ Ext w w')) := by
  refine calls_run (n := 32) Tryz.func14 rfl rfl rfl ?_
  refine Run.seq ?_
  refine Run.region ?_
  refine RL.st rfl <| St1.alloc ty57 ?_
  intro b_1 w_2 hl_5 hb_4 K_3
  replace hb_4 : Blk w_2 b_1 [.int .i64 (0), .int .i64 (0), .int .i64 (0), .int .i64 (0), .string (⟨#[]⟩), .slice (none) (0) (0), .slice (none) (0) (0), .slice (none) (0) (0), .int .i64 (0), .int .i64 (0), .int .i64 (0), .int .i64 (0), .int .i64 (0), .int .i64 (0), .slice (none) (0) (0), .slice (none) (0) (0), .slice (none) (0) (0)] 57 := hb_4
  have ne_6 : b < b_1 := Nat.lt_of_lt_of_le hB.lt hl_5
  have : w.heap.size ≤ b_1 := hl_5
  clear hl_5
  replace hB := hB.ext K_3
  have K0 := (K_3 : Ext w _)
  refine RL.val (x_assignI rfl) ?_
  refine RL.nil ?_
  refine Run.seq ?_
  refine Run.region ?_
  refine RL.val (x_moveP rfl) ?_
  refine RL.val (x_moveI rfl) ?_
  refine RL.st rfl <| St1.call (vals := [.pointer (some ⟨b, 0, none⟩), .int .i64 (i)]) en42 rfl (lookZero _ _ _ hB) ?_
  rintro _ w_7 ⟨rfl, K_8⟩
  replace hB := hB.ext K_8
  replace hb_4 := hb_4.ext K_8
  replace K0 := K0.ext K_8
  refine RL.val (x_moveT rfl) ?_
  refine RL.val (x_extract rfl rfl) ?_
  refine RL.val (x_extract rfl rfl) ?_
  refine RL.st rfl <| St1.alloc ty57 ?_
  intro b_9 w_10 hl_13 hb_12 K_11
  replace hb_12 : Blk w_10 b_9 [.int .i64 (0), .int .i64 (0), .int .i64 (0), .int .i64 (0), .string (⟨#[]⟩), .slice (none) (0) (0), .slice (none) (0) (0), .slice (none) (0) (0), .int .i64 (0), .int .i64 (0), .int .i64 (0), .int .i64 (0), .int .i64 (0), .int .i64 (0), .slice (none) (0) (0), .slice (none) (0) (0), .slice (none) (0) (0)] 57 := hb_12
  have ne_14 : b < b_9 := Nat.lt_of_lt_of_le hB.lt hl_13
  have ne_15 : b_1 < b_9 := Nat.lt_of_lt_of_le hb_4.lt hl_13
  have : w.heap.size ≤ b_9 := Nat.le_trans K0.size hl_13
  clear hl_13
  replace hB := hB.ext K_11
  replace hb_4 := hb_4.ext K_11
  replace K0 := K0.ext K_11
  refine RL.st rfl <| St1.store (v := .agg #[.int .i64 (((mkC nilV nilS)).kind), .int .i64 (((mkC nilV nilS)).frm), .int .i64 (((mkC nilV nilS)).to), .int .i64 (((mkC nilV nilS)).req), .string (((mkC nilV nilS)).key), .slice (nilS.ea) (nilV.ent.length) (nilS.ec), .slice (nilS.ma) (nilV.mrk.length) (nilS.mc), .slice (nilS.ca) (nilV.cl.length) (nilS.cc), .int .i64 (((mkC nilV nilS)).owner), .int .i64 (((mkC nilV nilS)).part), .int .i64 (((mkC nilV nilS)).n), .int .i64 ((((mkC nilV nilS)).ring).parts), .int .i64 ((((mkC nilV nilS)).ring).copies), .int .i64 ((((mkC nilV nilS)).ring).spots), .slice (nilS.ba) (nilV.mem.length) (nilS.bc), .slice (nilS.pa) (nilV.pe.length) (nilS.pc), .slice (nilS.sa) (nilV.su.length) (nilS.sc)]) ty57 rfl rfl rfl (by simp [Value.cells, Value.oneCell']) hb_12 (by simp) ?_
  intro w_16 hb_12_ K_17
  have hb_12' : Blk w_16 b_9 [.int .i64 (((mkC nilV nilS)).kind), .int .i64 (((mkC nilV nilS)).frm), .int .i64 (((mkC nilV nilS)).to), .int .i64 (((mkC nilV nilS)).req), .string (((mkC nilV nilS)).key), .slice (nilS.ea) (nilV.ent.length) (nilS.ec), .slice (nilS.ma) (nilV.mrk.length) (nilS.mc), .slice (nilS.ca) (nilV.cl.length) (nilS.cc), .int .i64 (((mkC nilV nilS)).owner), .int .i64 (((mkC nilV nilS)).part), .int .i64 (((mkC nilV nilS)).n), .int .i64 ((((mkC nilV nilS)).ring).parts), .int .i64 ((((mkC nilV nilS)).ring).copies), .int .i64 ((((mkC nilV nilS)).ring).spots), .slice (nilS.ba) (nilV.mem.length) (nilS.bc), .slice (nilS.pa) (nilV.pe.length) (nilS.pc), .slice (nilS.sa) (nilV.su.length) (nilS.sc)] 57 := hb_12_
  clear hb_12_
  replace hB := hB.keep K_17 (by simp only [one]; omega)
  replace hb_4 := hb_4.keep K_17 (by simp only [one]; omega)
  replace K0 := K0.new K_17 (fun x hx => by simp only [one] at hx; omega)
  replace hb_12 := hb_12'
  clear hb_12'
  refine RL.val (x_assignI rfl) ?_
  refine RL.nil ?_
  refine Run.seq ?_
  refine Run.seq ?_
  refine Run.region ?_
  refine RL.val (x_moveI rfl) ?_
  refine RL.val (litT (x_neI rfl rfl) (by decide)) ?_
  refine RL.nil ?_
  refine Run.condT rfl ?_
  refine Run.seq ?_
  refine Run.region ?_
  refine RL.val (x_build (cells := #[.int .i64 (0), .int .i64 (0), .int .i64 (0), .int .i64 (0), .string (⟨#[]⟩), .slice (none) (0) (0), .slice (none) (0) (0), .slice (none) (0) (0), .int .i64 (0), .int .i64 (0), .int .i64 (0), .int .i64 (0), .int .i64 (0), .int .i64 (0), .slice (none) (0) (0), .slice (none) (0) (0), .slice (none) (0) (0)]) (by kernel_rfl)) ?_
  refine RL.val (x_moveI rfl) ?_
  refine RL.st rfl <| St1.store (v := .agg #[.int .i64 (0), .int .i64 (0), .int .i64 (0), .int .i64 (0), .string (⟨#[]⟩), .slice (none) (0) (0), .slice (none) (0) (0), .slice (none) (0) (0), .int .i64 (0), .int .i64 (0), .int .i64 (0), .int .i64 (0), .int .i64 (0), .int .i64 (0), .slice (none) (0) (0), .slice (none) (0) (0), .slice (none) (0) (0)]) ty57 rfl rfl rfl (by simp [Value.cells, Value.oneCell']) hb_4 (by simp) ?_
  intro w_18 hb_4_ K_19
  have hb_4' : Blk w_18 b_1 [.int .i64 (0), .int .i64 (0), .int .i64 (0), .int .i64 (0), .string (⟨#[]⟩), .slice (none) (0) (0), .slice (none) (0) (0), .slice (none) (0) (0), .int .i64 (0), .int .i64 (0), .int .i64 (0), .int .i64 (0), .int .i64 (0), .int .i64 (0), .slice (none) (0) (0), .slice (none) (0) (0), .slice (none) (0) (0)] 57 := hb_4_
  clear hb_4_
  replace hB := hB.keep K_19 (by simp only [one]; omega)
  replace hb_12 := hb_12.keep K_19 (by simp only [one]; omega)
  replace K0 := K0.new K_19 (fun x hx => by simp only [one] at hx; omega)
  replace hb_4 := hb_4'
  clear hb_4'
  refine RL.val (x_assignI rfl) ?_
  refine RL.nil ?_
  refine Run.retCT (x := .int .i64 (8)) (cs := #[.int .i64 (0), .int .i64 (0), .int .i64 (0), .int .i64 (0), .string (⟨#[]⟩), .slice (none) (0) (0), .slice (none) (0) (0), .slice (none) (0) (0), .int .i64 (0), .int .i64 (0), .int .i64 (0), .int .i64 (0), .int .i64 (0), .int .i64 (0), .slice (none) (0) (0), .slice (none) (0) (0), .slice (none) (0) (0)]) Tryz.func14 rfl ty57 rfl rfl hb_4.cl rfl ?_
  exact ⟨_, rfl, rfl, K0⟩

set_option maxRecDepth 100000 in
set_option maxHeartbeats 4000000 in
theorem take_ (b pm cm : Nat) (nodes id now : Int) (ts : List Pk) (cs : List LinkC) (i : Int) (w : World) (hD : WldO w b pm cm nodes id now ts cs) :
    Calls Tryz.prog 14 #[.pointer (some ⟨b, 0, none⟩), .int .i64 (i)] w (Ret (fun r w' => ((¬ ∃ p ∈ ts, p.id = i) ∧ r = .tuple #[.agg #[.int .i64 (((mkC nilV nilS)).kind), .int .i64 (((mkC nilV nilS)).frm), .int .i64 (((mkC nilV nilS)).to), .int .i64 (((mkC nilV nilS)).req), .string (((mkC nilV nilS)).key), .slice (nilS.ea) (nilV.ent.length) (nilS.ec), .slice (nilS.ma) (nilV.mrk.length) (nilS.mc), .slice (nilS.ca) (nilV.cl.length) (nilS.cc), .int .i64 (((mkC nilV nilS)).owner), .int .i64 (((mkC nilV nilS)).part), .int .i64 (((mkC nilV nilS)).n), .int .i64 ((((mkC nilV nilS)).ring).parts), .int .i64 ((((mkC nilV nilS)).ring).copies), .int .i64 ((((mkC nilV nilS)).ring).spots), .slice (nilS.ba) (nilV.mem.length) (nilS.bc), .slice (nilS.pa) (nilV.pe.length) (nilS.pc), .slice (nilS.sa) (nilV.su.length) (nilS.sc)], .int .i64 221] ∧ WldO w' b pm cm nodes id now ts cs ∧ Keeps (wF b pm cm) w w') ∨ ((∃ p ∈ ts, p.id = i ∧ linkedB nodes cs p.v.frm p.v.to = false ∧ r = .tuple #[.agg #[.int .i64 (((mkC nilV nilS)).kind), .int .i64 (((mkC nilV nilS)).frm), .int .i64 (((mkC nilV nilS)).to), .int .i64 (((mkC nilV nilS)).req), .string (((mkC nilV nilS)).key), .slice (nilS.ea) (nilV.ent.length) (nilS.ec), .slice (nilS.ma) (nilV.mrk.length) (nilS.mc), .slice (nilS.ca) (nilV.cl.length) (nilS.cc), .int .i64 (((mkC nilV nilS)).owner), .int .i64 (((mkC nilV nilS)).part), .int .i64 (((mkC nilV nilS)).n), .int .i64 ((((mkC nilV nilS)).ring).parts), .int .i64 ((((mkC nilV nilS)).ring).copies), .int .i64 ((((mkC nilV nilS)).ring).spots), .slice (nilS.ba) (nilV.mem.length) (nilS.bc), .slice (nilS.pa) (nilV.pe.length) (nilS.pc), .slice (nilS.sa) (nilV.su.length) (nilS.sc)], .int .i64 220] ∧ WldO w' b pm cm nodes id now ts cs ∧ Keeps (wF b pm cm) w w') ∨ (∃ p l1 l2, ts = l1 ++ p :: l2 ∧ p.id = i ∧ linkedB nodes cs p.v.frm p.v.to = true ∧ r = .tuple #[.agg #[.int .i64 (((mkC p.v p.s)).kind), .int .i64 (((mkC p.v p.s)).frm), .int .i64 (((mkC p.v p.s)).to), .int .i64 (((mkC p.v p.s)).req), .string (((mkC p.v p.s)).key), .slice (p.s.ea) (p.v.ent.length) (p.s.ec), .slice (p.s.ma) (p.v.mrk.length) (p.s.mc), .slice (p.s.ca) (p.v.cl.length) (p.s.cc), .int .i64 (((mkC p.v p.s)).owner), .int .i64 (((mkC p.v p.s)).part), .int .i64 (((mkC p.v p.s)).n), .int .i64 ((((mkC p.v p.s)).ring).parts), .int .i64 ((((mkC p.v p.s)).ring).copies), .int .i64 ((((mkC p.v p.s)).ring).spots), .slice (p.s.ba) (p.v.mem.length) (p.s.bc), .slice (p.s.pa) (p.v.pe.length) (p.s.pc), .slice (p.s.sa) (p.v.su.length) (p.s.sc)], .int .i64 0] ∧ WldO w' b pm cm nodes id now (l1 ++ l2) cs ∧ SixO w' p.s p.v ∧ SixA p.s ∧ (∀ q, ownS p.s q → ¬ wS b pm cm (l1 ++ l2) q) ∧ Keeps (wF b pm cm) w w')))) := by
  obtain ⟨hB, hP, hC, hM, hn1, hn2, hn3, hsb, hsp, hsc, hok⟩ := hD
  obtain ⟨hno1, hno2⟩ := hok.nodes
  obtain ⟨hnw1, hnw2⟩ := hok.now
  have hid0 := hok.id0
  have hl5 := hok.len
  rw [p_len] at hl5
  have hpl := pents_len ts
  refine calls_run (n := 32) Tryz.func14 rfl rfl rfl ?_
  refine Run.seq ?_
  refine Run.region ?_
  refine RL.st rfl <| St1.alloc ty57 ?_
  intro b_1 w_2 hl_5 hb_4 K_3
  replace hb_4 : Blk w_2 b_1 [.int .i64 (0), .int .i64 (0), .int .i64 (0), .int .i64 (0), .string (⟨#[]⟩), .slice (none) (0) (0), .slice (none) (0) (0), .slice (none) (0) (0), .int .i64 (0), .int .i64 (0), .int .i64 (0), .int .i64 (0), .int .i64 (0), .int .i64 (0), .slice (none) (0) (0), .slice (none) (0) (0), .slice (none) (0) (0)] 57 := hb_4
  have ne_6 : b < b_1 := Nat.lt_of_lt_of_le hB.lt hl_5
  have pr_7 : ¬ one pm b_1 := fun h => absurd (hP.own_lt _ h) (by omega)
  have pr_8 : ¬ one cm b_1 := fun h => absurd (hC.own_lt _ h) (by omega)
  have pr_9 : ¬ mgsS ts b_1 := fun h => absurd (hM.own_lt _ h) (by omega)
  have : w.heap.size ≤ b_1 := hl_5
  clear hl_5
  replace hB := hB.ext K_3
  replace hP := hP.ext K_3
  replace hC := hC.ext K_3
  replace hM := hM.ext K_3
  have K0 := (K_3 : Ext w _).to (S := (wF b pm cm))
  refine RL.val (x_assignI rfl) ?_
  refine RL.nil ?_
  refine Run.seq ?_
  refine Run.region ?_
  refine RL.val (x_moveP rfl) ?_
  refine RL.val (x_moveI rfl) ?_
  refine RL.st rfl <| St1.call (vals := [.pointer (some ⟨b, 0, none⟩), .int .i64 (i)]) en42 rfl (look_ b pm cm nodes id now ts cs i _ (⟨hB, hP, hC, hM, hn1, hn2, hn3, hsb, (fun h_ => (mp_of hsp) _ h_ rfl), (fun h_ => (mp_of hsc) _ h_ rfl), hok⟩ : WldO _ b pm cm nodes id now ts cs)) ?_
  rintro _ w_10 (⟨p_11, hp_12, hpi_13, rfl, K_14⟩ | ⟨hno_15, rfl, K_14⟩)
  · replace hB := hB.ext K_14
    replace hP := hP.ext K_14
    replace hC := hC.ext K_14
    replace hM := hM.ext K_14
    replace hb_4 := hb_4.ext K_14
    replace K0 := K0.ext K_14
    refine RL.val (x_moveT rfl) ?_
    refine RL.val (x_extract rfl rfl) ?_
    refine RL.val (x_extract rfl rfl) ?_
    refine RL.st rfl <| St1.alloc ty57 ?_
    intro b_16 w_17 hl_20 hb_19 K_18
    replace hb_19 : Blk w_17 b_16 [.int .i64 (0), .int .i64 (0), .int .i64 (0), .int .i64 (0), .string (⟨#[]⟩), .slice (none) (0) (0), .slice (none) (0) (0), .slice (none) (0) (0), .int .i64 (0), .int .i64 (0), .int .i64 (0), .int .i64 (0), .int .i64 (0), .int .i64 (0), .slice (none) (0) (0), .slice (none) (0) (0), .slice (none) (0) (0)] 57 := hb_19
    have ne_21 : b < b_16 := Nat.lt_of_lt_of_le hB.lt hl_20
    have ne_22 : b_1 < b_16 := Nat.lt_of_lt_of_le hb_4.lt hl_20
    have pr_23 : ¬ one pm b_16 := fun h => absurd (hP.own_lt _ h) (by omega)
    have pr_24 : ¬ one cm b_16 := fun h => absurd (hC.own_lt _ h) (by omega)
    have pr_25 : ¬ mgsS ts b_16 := fun h => absurd (hM.own_lt _ h) (by omega)
    have : w.heap.size ≤ b_16 := Nat.le_trans K0.size hl_20
    clear hl_20
    replace hB := hB.ext K_18
    replace hP := hP.ext K_18
    replace hC := hC.ext K_18
    replace hM := hM.ext K_18
    replace hb_4 := hb_4.ext K_18
    replace K0 := K0.ext K_18
    refine RL.st rfl <| St1.store (v := .agg #[.int .i64 (((mkC p_11.v p_11.s)).kind), .int .i64 (((mkC p_11.v p_11.s)).frm), .int .i64 (((mkC p_11.v p_11.s)).to), .int .i64 (((mkC p_11.v p_11.s)).req), .string (((mkC p_11.v p_11.s)).key), .slice (p_11.s.ea) (p_11.v.ent.length) (p_11.s.ec), .slice (p_11.s.ma) (p_11.v.mrk.length) (p_11.s.mc), .slice (p_11.s.ca) (p_11.v.cl.length) (p_11.s.cc), .int .i64 (((mkC p_11.v p_11.s)).owner), .int .i64 (((mkC p_11.v p_11.s)).part), .int .i64 (((mkC p_11.v p_11.s)).n), .int .i64 ((((mkC p_11.v p_11.s)).ring).parts), .int .i64 ((((mkC p_11.v p_11.s)).ring).copies), .int .i64 ((((mkC p_11.v p_11.s)).ring).spots), .slice (p_11.s.ba) (p_11.v.mem.length) (p_11.s.bc), .slice (p_11.s.pa) (p_11.v.pe.length) (p_11.s.pc), .slice (p_11.s.sa) (p_11.v.su.length) (p_11.s.sc)]) ty57 rfl rfl rfl (by simp [Value.cells, Value.oneCell']) hb_19 (by simp) ?_
    intro w_26 hb_19_ K_27
    have hb_19' : Blk w_26 b_16 [.int .i64 (((mkC p_11.v p_11.s)).kind), .int .i64 (((mkC p_11.v p_11.s)).frm), .int .i64 (((mkC p_11.v p_11.s)).to), .int .i64 (((mkC p_11.v p_11.s)).req), .string (((mkC p_11.v p_11.s)).key), .slice (p_11.s.ea) (p_11.v.ent.length) (p_11.s.ec), .slice (p_11.s.ma) (p_11.v.mrk.length) (p_11.s.mc), .slice (p_11.s.ca) (p_11.v.cl.length) (p_11.s.cc), .int .i64 (((mkC p_11.v p_11.s)).owner), .int .i64 (((mkC p_11.v p_11.s)).part), .int .i64 (((mkC p_11.v p_11.s)).n), .int .i64 ((((mkC p_11.v p_11.s)).ring).parts), .int .i64 ((((mkC p_11.v p_11.s)).ring).copies), .int .i64 ((((mkC p_11.v p_11.s)).ring).spots), .slice (p_11.s.ba) (p_11.v.mem.length) (p_11.s.bc), .slice (p_11.s.pa) (p_11.v.pe.length) (p_11.s.pc), .slice (p_11.s.sa) (p_11.v.su.length) (p_11.s.sc)] 57 := hb_19_
    clear hb_19_
    replace hB := hB.keep K_27 (by simp only [one]; omega)
    replace hP := hP.keepO K_27 (fun q_ hq_ eq_ => pr_23 (by simp only [one] at eq_; rw [← eq_]; exact hq_))
    replace hC := hC.keepO K_27 (fun q_ hq_ eq_ => pr_24 (by simp only [one] at eq_; rw [← eq_]; exact hq_))
    replace hM := hM.keepO K_27 (fun q_ hq_ eq_ => pr_25 (by simp only [one] at eq_; rw [← eq_]; exact hq_))
    replace hb_4 := hb_4.keep K_27 (by simp only [one]; omega)
    replace K0 := K0.trans K_27 (fun x hlt hx => absurd hlt (by simp only [one] at hx; omega))
    replace hb_19 := hb_19'
    clear hb_19'
    refine RL.val (x_assignI rfl) ?_
    refine RL.nil ?_
    refine Run.seq ?_
    refine Run.seq ?_
    refine Run.region ?_
    refine RL.val (x_moveI rfl) ?_
    refine RL.val (litF (x_neI rfl rfl) (by decide)) ?_
    refine RL.nil ?_
    refine Run.condF rfl ?_
    refine Run.skip ?_
    refine Run.seq ?_
    refine Run.seq ?_
    refine Run.region ?_
    refine RL.val (x_moveP rfl) ?_
    refine RL.val (x_fld (o' := 1) Tryz.underlying57 rfl ty3 rfl rfl rfl) ?_
    refine RL.val (x_ld (v := .int .i64 (((mkC p_11.v p_11.s)).frm)) ty3 rfl rfl (hb_19.cl.field (i := 1) rfl)) ?_
    refine RL.val (x_fld (o' := 2) Tryz.underlying57 rfl ty3 rfl rfl rfl) ?_
    refine RL.val (x_ld (v := .int .i64 (((mkC p_11.v p_11.s)).to)) ty3 rfl rfl (hb_19.cl.field (i := 2) rfl)) ?_
    refine RL.st rfl <| St1.call (vals := [.pointer (some ⟨b, 0, none⟩), .int .i64 (((mkC p_11.v p_11.s)).frm), .int .i64 (((mkC p_11.v p_11.s)).to)]) en32 rfl (linked_ b pm cm nodes id now ts cs (((mkC p_11.v p_11.s)).frm) (((mkC p_11.v p_11.s)).to) _ (⟨hB, hP, hC, hM, hn1, hn2, hn3, hsb, (fun h_ => (mp_of hsp) _ h_ rfl), (fun h_ => (mp_of hsc) _ h_ rfl), hok⟩ : WldO _ b pm cm nodes id now ts cs)) ?_
    rintro _ w_28 ⟨rfl, K_29⟩
    replace hB := hB.ext K_29
    replace hP := hP.ext K_29
    replace hC := hC.ext K_29
    replace hM := hM.ext K_29
    replace hb_4 := hb_4.ext K_29
    replace hb_19 := hb_19.ext K_29
    replace K0 := K0.ext K_29
    refine RL.val (x_not rfl) ?_
    refine RL.nil ?_
    refine Run.cond rfl (fun hc24 => ?_) (fun hc24 => ?_)
    · try simp only [br] at hc24
      refine Run.seq ?_
      refine Run.region ?_
      refine RL.val (x_build (cells := #[.int .i64 (0), .int .i64 (0), .int .i64 (0), .int .i64 (0), .string (⟨#[]⟩), .slice (none) (0) (0), .slice (none) (0) (0), .slice (none) (0) (0), .int .i64 (0), .int .i64 (0), .int .i64 (0), .int .i64 (0), .int .i64 (0), .int .i64 (0), .slice (none) (0) (0), .slice (none) (0) (0), .slice (none) (0) (0)]) (by kernel_rfl)) ?_
      refine RL.st rfl <| St1.store (v := .agg #[.int .i64 (0), .int .i64 (0), .int .i64 (0), .int .i64 (0), .string (⟨#[]⟩), .slice (none) (0) (0), .slice (none) (0) (0), .slice (none) (0) (0), .int .i64 (0), .int .i64 (0), .int .i64 (0), .int .i64 (0), .int .i64 (0), .int .i64 (0), .slice (none) (0) (0), .slice (none) (0) (0), .slice (none) (0) (0)]) ty57 rfl rfl rfl (by simp [Value.cells, Value.oneCell']) hb_4 (by simp) ?_
      intro w_30 hb_4_ K_31
      have hb_4' : Blk w_30 b_1 [.int .i64 (0), .int .i64 (0), .int .i64 (0), .int .i64 (0), .string (⟨#[]⟩), .slice (none) (0) (0), .slice (none) (0) (0), .slice (none) (0) (0), .int .i64 (0), .int .i64 (0), .int .i64 (0), .int .i64 (0), .int .i64 (0), .int .i64 (0), .slice (none) (0) (0), .slice (none) (0) (0), .slice (none) (0) (0)] 57 := hb_4_
      clear hb_4_
      replace hB := hB.keep K_31 (by simp only [one]; omega)
      replace hP := hP.keepO K_31 (fun q_ hq_ eq_ => pr_7 (by simp only [one] at eq_; rw [← eq_]; exact hq_))
      replace hC := hC.keepO K_31 (fun q_ hq_ eq_ => pr_8 (by simp only [one] at eq_; rw [← eq_]; exact hq_))
      replace hM := hM.keepO K_31 (fun q_ hq_ eq_ => pr_9 (by simp only [one] at eq_; rw [← eq_]; exact hq_))
      replace hb_19 := hb_19.keep K_31 (by simp only [one]; omega)
      replace K0 := K0.trans K_31 (fun x hlt hx => absurd hlt (by simp only [one] at hx; omega))
      replace hb_4 := hb_4'
      clear hb_4'
      refine RL.val (x_assignI rfl) ?_
      refine RL.nil ?_
      refine Run.retCT (x := .int .i64 (220)) (cs := #[.int .i64 (0), .int .i64 (0), .int .i64 (0), .int .i64 (0), .string (⟨#[]⟩), .slice (none) (0) (0), .slice (none) (0) (0), .slice (none) (0) (0), .int .i64 (0), .int .i64 (0), .int .i64 (0), .int .i64 (0), .int .i64 (0), .int .i64 (0), .slice (none) (0) (0), .slice (none) (0) (0), .slice (none) (0) (0)]) Tryz.func14 rfl ty57 rfl rfl hb_4.cl rfl ?_
      exact ⟨_, rfl, .inr (.inl ⟨p_11, hp_12, hpi_13, by simpa using hc24, rfl, ⟨hB, hP, hC, hM, hn1, hn2, hn3, hsb, (fun h_ => (mp_of hsp) _ h_ rfl), (fun h_ => (mp_of hsc) _ h_ rfl), hok⟩, K0⟩)⟩
    · try simp only [br] at hc24
      refine Run.skip ?_
      refine Run.seq ?_
      obtain ⟨l1, l2, hts⟩ := pk_mid hp_12
      obtain ⟨hpm, hM2, hRp⟩ := hM.open hts
      obtain ⟨hO, hA, hvk⟩ := hpm
      clear hM
      have pr_32 : ¬ ownS p_11.s b := fun h_ => hsb ((mgs_p hts) _ h_)
      have pr_33 : ∀ q_, ownS p_11.s q_ → ¬ one pm q_ := fun q_ h_ => (mp_of hsp) q_ ((mgs_p hts) q_ h_)
      have pr_34 : ∀ q_, ownS p_11.s q_ → ¬ one cm q_ := fun q_ h_ => (mp_of hsc) q_ ((mgs_p hts) q_ h_)
      have pr_35 : ¬ ownS p_11.s b_1 := fun h_ => pr_9 ((mgs_p hts) _ h_)
      have pr_36 : ¬ ownS p_11.s b_16 := fun h_ => pr_25 ((mgs_p hts) _ h_)
      have pr_37 : ¬ mgsS (l1 ++ l2) b := fun h_ => hsb ((mgs_r hts) _ h_)
      have pr_38 : ∀ q_, mgsS (l1 ++ l2) q_ → ¬ one pm q_ := fun q_ h_ => (mp_of hsp) q_ ((mgs_r hts) q_ h_)
      have pr_39 : ∀ q_, mgsS (l1 ++ l2) q_ → ¬ one cm q_ := fun q_ h_ => (mp_of hsc) q_ ((mgs_r hts) q_ h_)
      have pr_40 : ¬ mgsS (l1 ++ l2) b_1 := fun h_ => pr_9 ((mgs_r hts) _ h_)
      have pr_41 : ¬ mgsS (l1 ++ l2) b_16 := fun h_ => pr_25 ((mgs_r hts) _ h_)
      refine Run.region ?_
      refine RL.val (x_moveP rfl) ?_
      refine RL.val (x_nilCheck rfl) ?_
      refine RL.val (x_fld (o' := 1) Tryz.underlying64 rfl ty61 rfl rfl rfl) ?_
      refine RL.val (x_ld (v := .map (some pm)) ty61 rfl rfl (hB.cl.field (i := 1) rfl)) ?_
      refine RL.val (x_moveI rfl) ?_
      refine RL.st rfl <| St1.deleteMap Tryz.underlying61 Tryz.underlying3 rfl rfl rfl hP ?_
      intro w_42 hM_43 K_44
      replace hM_43 : MapAt w_42 pm (pents (l1 ++ l2)) := (pents_del hok.rise hts hpi_13 ▸ hM_43)
      replace hB := hB.keep K_44 hn1
      replace hC := hC.keepO K_44 (cp_of hn3)
      replace hb_4 := hb_4.keep K_44 pr_7
      replace hb_19 := hb_19.keep K_44 pr_23
      replace hO := hO.keepO K_44 pr_33
      replace hM2 := hM2.keepO K_44 pr_38
      replace K0 := K0.trans K_44 (fun x hlt hx => (fun q_ h_ _ => wf_p q_ h_) x hx hlt)
      replace hP := hM_43
      clear hM_43
      refine RL.nil ?_
      refine Run.seq ?_
      refine Run.region ?_
      refine RL.val (x_lds (cs := #[.int .i64 (((mkC p_11.v p_11.s)).kind), .int .i64 (((mkC p_11.v p_11.s)).frm), .int .i64 (((mkC p_11.v p_11.s)).to), .int .i64 (((mkC p_11.v p_11.s)).req), .string (((mkC p_11.v p_11.s)).key), .slice (p_11.s.ea) (p_11.v.ent.length) (p_11.s.ec), .slice (p_11.s.ma) (p_11.v.mrk.length) (p_11.s.mc), .slice (p_11.s.ca) (p_11.v.cl.length) (p_11.s.cc), .int .i64 (((mkC p_11.v p_11.s)).owner), .int .i64 (((mkC p_11.v p_11.s)).part), .int .i64 (((mkC p_11.v p_11.s)).n), .int .i64 ((((mkC p_11.v p_11.s)).ring).parts), .int .i64 ((((mkC p_11.v p_11.s)).ring).copies), .int .i64 ((((mkC p_11.v p_11.s)).ring).spots), .slice (p_11.s.ba) (p_11.v.mem.length) (p_11.s.bc), .slice (p_11.s.pa) (p_11.v.pe.length) (p_11.s.pc), .slice (p_11.s.sa) (p_11.v.su.length) (p_11.s.sc)]) ty57 rfl rfl (hb_19.cl.drop 0 17)) ?_
      refine RL.st rfl <| St1.store (v := .agg #[.int .i64 (((mkC p_11.v p_11.s)).kind), .int .i64 (((mkC p_11.v p_11.s)).frm), .int .i64 (((mkC p_11.v p_11.s)).to), .int .i64 (((mkC p_11.v p_11.s)).req), .string (((mkC p_11.v p_11.s)).key), .slice (p_11.s.ea) (p_11.v.ent.length) (p_11.s.ec), .slice (p_11.s.ma) (p_11.v.mrk.length) (p_11.s.mc), .slice (p_11.s.ca) (p_11.v.cl.length) (p_11.s.cc), .int .i64 (((mkC p_11.v p_11.s)).owner), .int .i64 (((mkC p_11.v p_11.s)).part), .int .i64 (((mkC p_11.v p_11.s)).n), .int .i64 ((((mkC p_11.v p_11.s)).ring).parts), .int .i64 ((((mkC p_11.v p_11.s)).ring).copies), .int .i64 ((((mkC p_11.v p_11.s)).ring).spots), .slice (p_11.s.ba) (p_11.v.mem.length) (p_11.s.bc), .slice (p_11.s.pa) (p_11.v.pe.length) (p_11.s.pc), .slice (p_11.s.sa) (p_11.v.su.length) (p_11.s.sc)]) ty57 rfl rfl rfl (by simp [Value.cells, Value.oneCell']) hb_4 (by simp) ?_
      intro w_45 hb_4_ K_46
      have hb_4' : Blk w_45 b_1 [.int .i64 (((mkC p_11.v p_11.s)).kind), .int .i64 (((mkC p_11.v p_11.s)).frm), .int .i64 (((mkC p_11.v p_11.s)).to), .int .i64 (((mkC p_11.v p_11.s)).req), .string (((mkC p_11.v p_11.s)).key), .slice (p_11.s.ea) (p_11.v.ent.length) (p_11.s.ec), .slice (p_11.s.ma) (p_11.v.mrk.length) (p_11.s.mc), .slice (p_11.s.ca) (p_11.v.cl.length) (p_11.s.cc), .int .i64 (((mkC p_11.v p_11.s)).owner), .int .i64 (((mkC p_11.v p_11.s)).part), .int .i64 (((mkC p_11.v p_11.s)).n), .int .i64 ((((mkC p_11.v p_11.s)).ring).parts), .int .i64 ((((mkC p_11.v p_11.s)).ring).copies), .int .i64 ((((mkC p_11.v p_11.s)).ring).spots), .slice (p_11.s.ba) (p_11.v.mem.length) (p_11.s.bc), .slice (p_11.s.pa) (p_11.v.pe.length) (p_11.s.pc), .slice (p_11.s.sa) (p_11.v.su.length) (p_11.s.sc)] 57 := hb_4_
      clear hb_4_
      replace hB := hB.keep K_46 (by simp only [one]; omega)
      replace hP := hP.keepO K_46 (fun q_ hq_ eq_ => pr_7 (by simp only [one] at eq_; rw [← eq_]; exact hq_))
      replace hC := hC.keepO K_46 (fun q_ hq_ eq_ => pr_8 (by simp only [one] at eq_; rw [← eq_]; exact hq_))
      replace hb_19 := hb_19.keep K_46 (by simp only [one]; omega)
      replace hO := hO.keepO K_46 (fun q_ hq_ eq_ => pr_35 (by simp only [one] at eq_; rw [← eq_]; exact hq_))
      replace hM2 := hM2.keepO K_46 (fun q_ hq_ eq_ => pr_40 (by simp only [one] at eq_; rw [← eq_]; exact hq_))
      replace K0 := K0.trans K_46 (fun x hlt hx => absurd hlt (by simp only [one] at hx; omega))
      replace hb_4 := hb_4'
      clear hb_4'
      refine RL.val (x_assignI rfl) ?_
      refine RL.nil ?_
      refine Run.retCT (x := .int .i64 (0)) (cs := #[.int .i64 (((mkC p_11.v p_11.s)).kind), .int .i64 (((mkC p_11.v p_11.s)).frm), .int .i64 (((mkC p_11.v p_11.s)).to), .int .i64 (((mkC p_11.v p_11.s)).req), .string (((mkC p_11.v p_11.s)).key), .slice (p_11.s.ea) (p_11.v.ent.length) (p_11.s.ec), .slice (p_11.s.ma) (p_11.v.mrk.length) (p_11.s.mc), .slice (p_11.s.ca) (p_11.v.cl.length) (p_11.s.cc), .int .i64 (((mkC p_11.v p_11.s)).owner), .int .i64 (((mkC p_11.v p_11.s)).part), .int .i64 (((mkC p_11.v p_11.s)).n), .int .i64 ((((mkC p_11.v p_11.s)).ring).parts), .int .i64 ((((mkC p_11.v p_11.s)).ring).copies), .int .i64 ((((mkC p_11.v p_11.s)).ring).spots), .slice (p_11.s.ba) (p_11.v.mem.length) (p_11.s.bc), .slice (p_11.s.pa) (p_11.v.pe.length) (p_11.s.pc), .slice (p_11.s.sa) (p_11.v.su.length) (p_11.s.sc)]) Tryz.func14 rfl ty57 rfl rfl hb_4.cl rfl ?_
      exact ⟨_, rfl, .inr (.inr ⟨p_11, l1, l2, hts, hpi_13, by simpa using hc24, rfl, ⟨hB, hP, hC, hM2, hn1, hn2, hn3, pr_37, (fun h_ => pr_38 _ h_ rfl), (fun h_ => pr_39 _ h_ rfl), hok.del hts⟩, hO, hA, own_apart pr_32 pr_33 pr_34 hRp, K0⟩)⟩
  · replace hB := hB.ext K_14
    replace hP := hP.ext K_14
    replace hC := hC.ext K_14
    replace hM := hM.ext K_14
    replace hb_4 := hb_4.ext K_14
    replace K0 := K0.ext K_14
    refine RL.val (x_moveT rfl) ?_
    refine RL.val (x_extract rfl rfl) ?_
    refine RL.val (x_extract rfl rfl) ?_
    refine RL.st rfl <| St1.alloc ty57 ?_
    intro b_47 w_48 hl_51 hb_50 K_49
    replace hb_50 : Blk w_48 b_47 [.int .i64 (0), .int .i64 (0), .int .i64 (0), .int .i64 (0), .string (⟨#[]⟩), .slice (none) (0) (0), .slice (none) (0) (0), .slice (none) (0) (0), .int .i64 (0), .int .i64 (0), .int .i64 (0), .int .i64 (0), .int .i64 (0), .int .i64 (0), .slice (none) (0) (0), .slice (none) (0) (0), .slice (none) (0) (0)] 57 := hb_50
    have ne_52 : b < b_47 := Nat.lt_of_lt_of_le hB.lt hl_51
    have ne_53 : b_1 < b_47 := Nat.lt_of_lt_of_le hb_4.lt hl_51
    have pr_54 : ¬ one pm b_47 := fun h => absurd (hP.own_lt _ h) (by omega)
    have pr_55 : ¬ one cm b_47 := fun h => absurd (hC.own_lt _ h) (by omega)
    have pr_56 : ¬ mgsS ts b_47 := fun h => absurd (hM.own_lt _ h) (by omega)
    have : w.heap.size ≤ b_47 := Nat.le_trans K0.size hl_51
    clear hl_51
    replace hB := hB.ext K_49
    replace hP := hP.ext K_49
    replace hC := hC.ext K_49
    replace hM := hM.ext K_49
    replace hb_4 := hb_4.ext K_49
    replace K0 := K0.ext K_49
    refine RL.st rfl <| St1.store (v := .agg #[.int .i64 (((mkC nilV nilS)).kind), .int .i64 (((mkC nilV nilS)).frm), .int .i64 (((mkC nilV nilS)).to), .int .i64 (((mkC nilV nilS)).req), .string (((mkC nilV nilS)).key), .slice (nilS.ea) (nilV.ent.length) (nilS.ec), .slice (nilS.ma) (nilV.mrk.length) (nilS.mc), .slice (nilS.ca) (nilV.cl.length) (nilS.cc), .int .i64 (((mkC nilV nilS)).owner), .int .i64 (((mkC nilV nilS)).part), .int .i64 (((mkC nilV nilS)).n), .int .i64 ((((mkC nilV nilS)).ring).parts), .int .i64 ((((mkC nilV nilS)).ring).copies), .int .i64 ((((mkC nilV nilS)).ring).spots), .slice (nilS.ba) (nilV.mem.length) (nilS.bc), .slice (nilS.pa) (nilV.pe.length) (nilS.pc), .slice (nilS.sa) (nilV.su.length) (nilS.sc)]) ty57 rfl rfl rfl (by simp [Value.cells, Value.oneCell']) hb_50 (by simp) ?_
    intro w_57 hb_50_ K_58
    have hb_50' : Blk w_57 b_47 [.int .i64 (((mkC nilV nilS)).kind), .int .i64 (((mkC nilV nilS)).frm), .int .i64 (((mkC nilV nilS)).to), .int .i64 (((mkC nilV nilS)).req), .string (((mkC nilV nilS)).key), .slice (nilS.ea) (nilV.ent.length) (nilS.ec), .slice (nilS.ma) (nilV.mrk.length) (nilS.mc), .slice (nilS.ca) (nilV.cl.length) (nilS.cc), .int .i64 (((mkC nilV nilS)).owner), .int .i64 (((mkC nilV nilS)).part), .int .i64 (((mkC nilV nilS)).n), .int .i64 ((((mkC nilV nilS)).ring).parts), .int .i64 ((((mkC nilV nilS)).ring).copies), .int .i64 ((((mkC nilV nilS)).ring).spots), .slice (nilS.ba) (nilV.mem.length) (nilS.bc), .slice (nilS.pa) (nilV.pe.length) (nilS.pc), .slice (nilS.sa) (nilV.su.length) (nilS.sc)] 57 := hb_50_
    clear hb_50_
    replace hB := hB.keep K_58 (by simp only [one]; omega)
    replace hP := hP.keepO K_58 (fun q_ hq_ eq_ => pr_54 (by simp only [one] at eq_; rw [← eq_]; exact hq_))
    replace hC := hC.keepO K_58 (fun q_ hq_ eq_ => pr_55 (by simp only [one] at eq_; rw [← eq_]; exact hq_))
    replace hM := hM.keepO K_58 (fun q_ hq_ eq_ => pr_56 (by simp only [one] at eq_; rw [← eq_]; exact hq_))
    replace hb_4 := hb_4.keep K_58 (by simp only [one]; omega)
    replace K0 := K0.trans K_58 (fun x hlt hx => absurd hlt (by simp only [one] at hx; omega))
    replace hb_50 := hb_50'
    clear hb_50'
    refine RL.val (x_assignI rfl) ?_
    refine RL.nil ?_
    refine Run.seq ?_
    refine Run.seq ?_
    refine Run.region ?_
    refine RL.val (x_moveI rfl) ?_
    refine RL.val (litT (x_neI rfl rfl) (by decide)) ?_
    refine RL.nil ?_
    refine Run.condT rfl ?_
    refine Run.seq ?_
    refine Run.region ?_
    refine RL.val (x_build (cells := #[.int .i64 (0), .int .i64 (0), .int .i64 (0), .int .i64 (0), .string (⟨#[]⟩), .slice (none) (0) (0), .slice (none) (0) (0), .slice (none) (0) (0), .int .i64 (0), .int .i64 (0), .int .i64 (0), .int .i64 (0), .int .i64 (0), .int .i64 (0), .slice (none) (0) (0), .slice (none) (0) (0), .slice (none) (0) (0)]) (by kernel_rfl)) ?_
    refine RL.val (x_moveI rfl) ?_
    refine RL.st rfl <| St1.store (v := .agg #[.int .i64 (0), .int .i64 (0), .int .i64 (0), .int .i64 (0), .string (⟨#[]⟩), .slice (none) (0) (0), .slice (none) (0) (0), .slice (none) (0) (0), .int .i64 (0), .int .i64 (0), .int .i64 (0), .int .i64 (0), .int .i64 (0), .int .i64 (0), .slice (none) (0) (0), .slice (none) (0) (0), .slice (none) (0) (0)]) ty57 rfl rfl rfl (by simp [Value.cells, Value.oneCell']) hb_4 (by simp) ?_
    intro w_59 hb_4_ K_60
    have hb_4' : Blk w_59 b_1 [.int .i64 (0), .int .i64 (0), .int .i64 (0), .int .i64 (0), .string (⟨#[]⟩), .slice (none) (0) (0), .slice (none) (0) (0), .slice (none) (0) (0), .int .i64 (0), .int .i64 (0), .int .i64 (0), .int .i64 (0), .int .i64 (0), .int .i64 (0), .slice (none) (0) (0), .slice (none) (0) (0), .slice (none) (0) (0)] 57 := hb_4_
    clear hb_4_
    replace hB := hB.keep K_60 (by simp only [one]; omega)
    replace hP := hP.keepO K_60 (fun q_ hq_ eq_ => pr_7 (by simp only [one] at eq_; rw [← eq_]; exact hq_))
    replace hC := hC.keepO K_60 (fun q_ hq_ eq_ => pr_8 (by simp only [one] at eq_; rw [← eq_]; exact hq_))
    replace hM := hM.keepO K_60 (fun q_ hq_ eq_ => pr_9 (by simp only [one] at eq_; rw [← eq_]; exact hq_))
    replace hb_50 := hb_50.keep K_60 (by simp only [one]; omega)
    replace K0 := K0.trans K_60 (fun x hlt hx => absurd hlt (by simp only [one] at hx; omega))
    replace hb_4 := hb_4'
    clear hb_4'
    refine RL.val (x_assignI rfl) ?_
    refine RL.nil ?_
    refine Run.retCT (x := .int .i64 (221)) (cs := #[.int .i64 (0), .int .i64 (0), .int .i64 (0), .int .i64 (0), .string (⟨#[]⟩), .slice (none) (0) (0), .slice (none) (0) (0), .slice (none) (0) (0), .int .i64 (0), .int .i64 (0), .int .i64 (0), .int .i64 (0), .int .i64 (0), .int .i64 (0), .slice (none) (0) (0), .slice (none) (0) (0), .slice (none) (0) (0)]) Tryz.func14 rfl ty57 rfl rfl hb_4.cl rfl ?_
    exact ⟨_, rfl, .inl ⟨hno_15, rfl, ⟨hB, hP, hC, hM, hn1, hn2, hn3, hsb, (fun h_ => (mp_of hsp) _ h_ rfl), (fun h_ => (mp_of hsc) _ h_ rfl), hok⟩, K0⟩⟩

set_option maxRecDepth 100000 in
set_option maxHeartbeats 4000000 in
theorem loseNil  (i : Int) (w : World) :
    Calls Tryz.prog 20 #[.pointer none, .int .i64 (i)] w (Ret (fun v w' => v = .int .i64 8 ∧ Ext w w')) := by
  refine calls_run (n := 21) Tryz.func20 rfl rfl rfl ?_
  refine Run.seq ?_
  refine Run.region ?_
  refine RL.val (x_assignI rfl) ?_
  refine RL.nil ?_
  refine Run.seq ?_
  refine Run.region ?_
  refine RL.val (x_moveP rfl) ?_
  refine RL.val (x_moveI rfl) ?_
  refine RL.st rfl <| St1.call (vals := [.pointer none, .int .i64 (i)]) en42 rfl (lookNil _ _) ?_
  rintro _ w_1 ⟨rfl, K_2⟩
  have K0 := (K_2 : Ext w _)
  refine RL.val (x_moveT rfl) ?_
  refine RL.val (x_extract rfl rfl) ?_
  refine RL.val (x_extract rfl rfl) ?_
  refine RL.st rfl <| St1.alloc ty57 ?_
  intro b_3 w_4 hl_7 hb_6 K_5
  replace hb_6 : Blk w_4 b_3 [.int .i64 (0), .int .i64 (0), .int .i64 (0), .int .i64 (0), .string (⟨#[]⟩), .slice (none) (0) (0), .slice (none) (0) (0), .slice (none) (0) (0), .int .i64 (0), .int .i64 (0), .int .i64 (0), .int .i64 (0), .int .i64 (0), .int .i64 (0), .slice (none) (0) (0), .slice (none) (0) (0), .slice (none) (0) (0)] 57 := hb_6
  have : w.heap.size ≤ b_3 := Nat.le_trans K0.size hl_7
  clear hl_7
  replace K0 := K0.ext K_5
  refine RL.st rfl <| St1.store (v := .agg #[.int .i64 (((mkC nilV nilS)).kind), .int .i64 (((mkC nilV nilS)).frm), .int .i64 (((mkC nilV nilS)).to), .int .i64 (((mkC nilV nilS)).req), .string (((mkC nilV nilS)).key), .slice (nilS.ea) (nilV.ent.length) (nilS.ec), .slice (nilS.ma) (nilV.mrk.length) (nilS.mc), .slice (nilS.ca) (nilV.cl.length) (nilS.cc), .int .i64 (((mkC nilV nilS)).owner), .int .i64 (((mkC nilV nilS)).part), .int .i64 (((mkC nilV nilS)).n), .int .i64 ((((mkC nilV nilS)).ring).parts), .int .i64 ((((mkC nilV nilS)).ring).copies), .int .i64 ((((mkC nilV nilS)).ring).spots), .slice (nilS.ba) (nilV.mem.length) (nilS.bc), .slice (nilS.pa) (nilV.pe.length) (nilS.pc), .slice (nilS.sa) (nilV.su.length) (nilS.sc)]) ty57 rfl rfl rfl (by simp [Value.cells, Value.oneCell']) hb_6 (by simp) ?_
  intro w_8 hb_6_ K_9
  have hb_6' : Blk w_8 b_3 [.int .i64 (((mkC nilV nilS)).kind), .int .i64 (((mkC nilV nilS)).frm), .int .i64 (((mkC nilV nilS)).to), .int .i64 (((mkC nilV nilS)).req), .string (((mkC nilV nilS)).key), .slice (nilS.ea) (nilV.ent.length) (nilS.ec), .slice (nilS.ma) (nilV.mrk.length) (nilS.mc), .slice (nilS.ca) (nilV.cl.length) (nilS.cc), .int .i64 (((mkC nilV nilS)).owner), .int .i64 (((mkC nilV nilS)).part), .int .i64 (((mkC nilV nilS)).n), .int .i64 ((((mkC nilV nilS)).ring).parts), .int .i64 ((((mkC nilV nilS)).ring).copies), .int .i64 ((((mkC nilV nilS)).ring).spots), .slice (nilS.ba) (nilV.mem.length) (nilS.bc), .slice (nilS.pa) (nilV.pe.length) (nilS.pc), .slice (nilS.sa) (nilV.su.length) (nilS.sc)] 57 := hb_6_
  clear hb_6_
  replace K0 := K0.new K_9 (fun x hx => by simp only [one] at hx; omega)
  replace hb_6 := hb_6'
  clear hb_6'
  refine RL.val (x_assignI rfl) ?_
  refine RL.nil ?_
  refine Run.seq ?_
  refine Run.seq ?_
  refine Run.region ?_
  refine RL.val (x_moveI rfl) ?_
  refine RL.val (litF (x_eqI rfl rfl) (by decide)) ?_
  refine RL.nil ?_
  refine Run.condF rfl ?_
  refine Run.skip ?_
  refine Run.seq ?_
  refine Run.region ?_
  refine RL.val (x_moveI rfl) ?_
  refine RL.val (x_assignI rfl) ?_
  refine RL.nil ?_
  refine Run.ret1 (v := .int .i64 (8)) Tryz.func20 rfl rfl ?_
  exact ⟨_, rfl, rfl, K0⟩

set_option maxRecDepth 100000 in
set_option maxHeartbeats 4000000 in
theorem loseZero (b : Nat) (i : Int) (w : World) (hB : Blk w b [.int .i64 0, .map none, .map none, .int .i64 0, .int .i64 0] 64) :
    Calls Tryz.prog 20 #[.pointer (some ⟨b, 0, none⟩), .int .i64 (i)] w (Ret (fun v w' => v = .int .i64 8 ∧ Ext w w')) := by
  refine calls_run (n := 21) Tryz.func20 rfl rfl rfl ?_
  refine Run.seq ?_
  refine Run.region ?_
  refine RL.val (x_assignI rfl) ?_
  refine RL.nil ?_
  refine Run.seq ?_
  refine Run.region ?_
  refine RL.val (x_moveP rfl) ?_
  refine RL.val (x_moveI rfl) ?_
  refine RL.st rfl <| St1.call (vals := [.pointer (some ⟨b, 0, none⟩), .int .i64 (i)]) en42 rfl (lookZero _ _ _ hB) ?_
  rintro _ w_1 ⟨rfl, K_2⟩
  replace hB := hB.ext K_2
  have K0 := (K_2 : Ext w _)
  refine RL.val (x_moveT rfl) ?_
  refine RL.val (x_extract rfl rfl) ?_
  refine RL.val (x_extract rfl rfl) ?_
  refine RL.st rfl <| St1.alloc ty57 ?_
  intro b_3 w_4 hl_7 hb_6 K_5
  replace hb_6 : Blk w_4 b_3 [.int .i64 (0), .int .i64 (0), .int .i64 (0), .int .i64 (0), .string (⟨#[]⟩), .slice (none) (0) (0), .slice (none) (0) (0), .slice (none) (0) (0), .int .i64 (0), .int .i64 (0), .int .i64 (0), .int .i64 (0), .int .i64 (0), .int .i64 (0), .slice (none) (0) (0), .slice (none) (0) (0), .slice (none) (0) (0)] 57 := hb_6
  have ne_8 : b < b_3 := Nat.lt_of_lt_of_le hB.lt hl_7
  have : w.heap.size ≤ b_3 := Nat.le_trans K0.size hl_7
  clear hl_7
  replace hB := hB.ext K_5
  replace K0 := K0.ext K_5
  refine RL.st rfl <| St1.store (v := .agg #[.int .i64 (((mkC nilV nilS)).kind), .int .i64 (((mkC nilV nilS)).frm), .int .i64 (((mkC nilV nilS)).to), .int .i64 (((mkC nilV nilS)).req), .string (((mkC nilV nilS)).key), .slice (nilS.ea) (nilV.ent.length) (nilS.ec), .slice (nilS.ma) (nilV.mrk.length) (nilS.mc), .slice (nilS.ca) (nilV.cl.length) (nilS.cc), .int .i64 (((mkC nilV nilS)).owner), .int .i64 (((mkC nilV nilS)).part), .int .i64 (((mkC nilV nilS)).n), .int .i64 ((((mkC nilV nilS)).ring).parts), .int .i64 ((((mkC nilV nilS)).ring).copies), .int .i64 ((((mkC nilV nilS)).ring).spots), .slice (nilS.ba) (nilV.mem.length) (nilS.bc), .slice (nilS.pa) (nilV.pe.length) (nilS.pc), .slice (nilS.sa) (nilV.su.length) (nilS.sc)]) ty57 rfl rfl rfl (by simp [Value.cells, Value.oneCell']) hb_6 (by simp) ?_
  intro w_9 hb_6_ K_10
  have hb_6' : Blk w_9 b_3 [.int .i64 (((mkC nilV nilS)).kind), .int .i64 (((mkC nilV nilS)).frm), .int .i64 (((mkC nilV nilS)).to), .int .i64 (((mkC nilV nilS)).req), .string (((mkC nilV nilS)).key), .slice (nilS.ea) (nilV.ent.length) (nilS.ec), .slice (nilS.ma) (nilV.mrk.length) (nilS.mc), .slice (nilS.ca) (nilV.cl.length) (nilS.cc), .int .i64 (((mkC nilV nilS)).owner), .int .i64 (((mkC nilV nilS)).part), .int .i64 (((mkC nilV nilS)).n), .int .i64 ((((mkC nilV nilS)).ring).parts), .int .i64 ((((mkC nilV nilS)).ring).copies), .int .i64 ((((mkC nilV nilS)).ring).spots), .slice (nilS.ba) (nilV.mem.length) (nilS.bc), .slice (nilS.pa) (nilV.pe.length) (nilS.pc), .slice (nilS.sa) (nilV.su.length) (nilS.sc)] 57 := hb_6_
  clear hb_6_
  replace hB := hB.keep K_10 (by simp only [one]; omega)
  replace K0 := K0.new K_10 (fun x hx => by simp only [one] at hx; omega)
  replace hb_6 := hb_6'
  clear hb_6'
  refine RL.val (x_assignI rfl) ?_
  refine RL.nil ?_
  refine Run.seq ?_
  refine Run.seq ?_
  refine Run.region ?_
  refine RL.val (x_moveI rfl) ?_
  refine RL.val (litF (x_eqI rfl rfl) (by decide)) ?_
  refine RL.nil ?_
  refine Run.condF rfl ?_
  refine Run.skip ?_
  refine Run.seq ?_
  refine Run.region ?_
  refine RL.val (x_moveI rfl) ?_
  refine RL.val (x_assignI rfl) ?_
  refine RL.nil ?_
  refine Run.ret1 (v := .int .i64 (8)) Tryz.func20 rfl rfl ?_
  exact ⟨_, rfl, rfl, K0⟩

set_option maxRecDepth 100000 in
set_option maxHeartbeats 4000000 in
theorem lose_ (b pm cm : Nat) (nodes id now : Int) (ts : List Pk) (cs : List LinkC) (i : Int) (w : World) (hD : WldO w b pm cm nodes id now ts cs) :
    Calls Tryz.prog 20 #[.pointer (some ⟨b, 0, none⟩), .int .i64 (i)] w (Ret (fun r w' => ((¬ ∃ p ∈ ts, p.id = i) ∧ r = .int .i64 221 ∧ WldO w' b pm cm nodes id now ts cs ∧ Keeps (wF b pm cm) w w') ∨ (∃ p l1 l2, ts = l1 ++ p :: l2 ∧ p.id = i ∧ r = .int .i64 0 ∧ WldO w' b pm cm nodes id now (l1 ++ l2) cs ∧ Keeps (wF b pm cm) w w'))) := by
  obtain ⟨hB, hP, hC, hM, hn1, hn2, hn3, hsb, hsp, hsc, hok⟩ := hD
  obtain ⟨hno1, hno2⟩ := hok.nodes
  obtain ⟨hnw1, hnw2⟩ := hok.now
  have hid0 := hok.id0
  have hl5 := hok.len
  rw [p_len] at hl5
  have hpl := pents_len ts
  refine calls_run (n := 21) Tryz.func20 rfl rfl rfl ?_
  refine Run.seq ?_
  refine Run.region ?_
  refine RL.val (x_assignI rfl) ?_
  refine RL.nil ?_
  refine Run.seq ?_
  refine Run.region ?_
  refine RL.val (x_moveP rfl) ?_
  refine RL.val (x_moveI rfl) ?_
  refine RL.st rfl <| St1.call (vals := [.pointer (some ⟨b, 0, none⟩), .int .i64 (i)]) en42 rfl (look_ b pm cm nodes id now ts cs i _ (⟨hB, hP, hC, hM, hn1, hn2, hn3, hsb, (fun h_ => (mp_of hsp) _ h_ rfl), (fun h_ => (mp_of hsc) _ h_ rfl), hok⟩ : WldO _ b pm cm nodes id now ts cs)) ?_
  rintro _ w_1 (⟨p_2, hp_3, hpi_4, rfl, K_5⟩ | ⟨hno_6, rfl, K_5⟩)
  · replace hB := hB.ext K_5
    replace hP := hP.ext K_5
    replace hC := hC.ext K_5
    replace hM := hM.ext K_5
    have K0 := (K_5 : Ext w _).to (S := (wF b pm cm))
    refine RL.val (x_moveT rfl) ?_
    refine RL.val (x_extract rfl rfl) ?_
    refine RL.val (x_extract rfl rfl) ?_
    refine RL.st rfl <| St1.alloc ty57 ?_
    intro b_7 w_8 hl_11 hb_10 K_9
    replace hb_10 : Blk w_8 b_7 [.int .i64 (0), .int .i64 (0), .int .i64 (0), .int .i64 (0), .string (⟨#[]⟩), .slice (none) (0) (0), .slice (none) (0) (0), .slice (none) (0) (0), .int .i64 (0), .int .i64 (0), .int .i64 (0), .int .i64 (0), .int .i64 (0), .int .i64 (0), .slice (none) (0) (0), .slice (none) (0) (0), .slice (none) (0) (0)] 57 := hb_10
    have ne_12 : b < b_7 := Nat.lt_of_lt_of_le hB.lt hl_11
    have pr_13 : ¬ one pm b_7 := fun h => absurd (hP.own_lt _ h) (by omega)
    have pr_14 : ¬ one cm b_7 := fun h => absurd (hC.own_lt _ h) (by omega)
    have pr_15 : ¬ mgsS ts b_7 := fun h => absurd (hM.own_lt _ h) (by omega)
    have : w.heap.size ≤ b_7 := Nat.le_trans K0.size hl_11
    clear hl_11
    replace hB := hB.ext K_9
    replace hP := hP.ext K_9
    replace hC := hC.ext K_9
    replace hM := hM.ext K_9
    replace K0 := K0.ext K_9
    refine RL.st rfl <| St1.store (v := .agg #[.int .i64 (((mkC p_2.v p_2.s)).kind), .int .i64 (((mkC p_2.v p_2.s)).frm), .int .i64 (((mkC p_2.v p_2.s)).to), .int .i64 (((mkC p_2.v p_2.s)).req), .string (((mkC p_2.v p_2.s)).key), .slice (p_2.s.ea) (p_2.v.ent.length) (p_2.s.ec), .slice (p_2.s.ma) (p_2.v.mrk.length) (p_2.s.mc), .slice (p_2.s.ca) (p_2.v.cl.length) (p_2.s.cc), .int .i64 (((mkC p_2.v p_2.s)).owner), .int .i64 (((mkC p_2.v p_2.s)).part), .int .i64 (((mkC p_2.v p_2.s)).n), .int .i64 ((((mkC p_2.v p_2.s)).ring).parts), .int .i64 ((((mkC p_2.v p_2.s)).ring).copies), .int .i64 ((((mkC p_2.v p_2.s)).ring).spots), .slice (p_2.s.ba) (p_2.v.mem.length) (p_2.s.bc), .slice (p_2.s.pa) (p_2.v.pe.length) (p_2.s.pc), .slice (p_2.s.sa) (p_2.v.su.length) (p_2.s.sc)]) ty57 rfl rfl rfl (by simp [Value.cells, Value.oneCell']) hb_10 (by simp) ?_
    intro w_16 hb_10_ K_17
    have hb_10' : Blk w_16 b_7 [.int .i64 (((mkC p_2.v p_2.s)).kind), .int .i64 (((mkC p_2.v p_2.s)).frm), .int .i64 (((mkC p_2.v p_2.s)).to), .int .i64 (((mkC p_2.v p_2.s)).req), .string (((mkC p_2.v p_2.s)).key), .slice (p_2.s.ea) (p_2.v.ent.length) (p_2.s.ec), .slice (p_2.s.ma) (p_2.v.mrk.length) (p_2.s.mc), .slice (p_2.s.ca) (p_2.v.cl.length) (p_2.s.cc), .int .i64 (((mkC p_2.v p_2.s)).owner), .int .i64 (((mkC p_2.v p_2.s)).part), .int .i64 (((mkC p_2.v p_2.s)).n), .int .i64 ((((mkC p_2.v p_2.s)).ring).parts), .int .i64 ((((mkC p_2.v p_2.s)).ring).copies), .int .i64 ((((mkC p_2.v p_2.s)).ring).spots), .slice (p_2.s.ba) (p_2.v.mem.length) (p_2.s.bc), .slice (p_2.s.pa) (p_2.v.pe.length) (p_2.s.pc), .slice (p_2.s.sa) (p_2.v.su.length) (p_2.s.sc)] 57 := hb_10_
    clear hb_10_
    replace hB := hB.keep K_17 (by simp only [one]; omega)
    replace hP := hP.keepO K_17 (fun q_ hq_ eq_ => pr_13 (by simp only [one] at eq_; rw [← eq_]; exact hq_))
    replace hC := hC.keepO K_17 (fun q_ hq_ eq_ => pr_14 (by simp only [one] at eq_; rw [← eq_]; exact hq_))
    replace hM := hM.keepO K_17 (fun q_ hq_ eq_ => pr_15 (by simp only [one] at eq_; rw [← eq_]; exact hq_))
    replace K0 := K0.trans K_17 (fun x hlt hx => absurd hlt (by simp only [one] at hx; omega))
    replace hb_10 := hb_10'
    clear hb_10'
    refine RL.val (x_assignI rfl) ?_
    refine RL.nil ?_
    refine Run.seq ?_
    refine Run.seq ?_
    refine Run.region ?_
    refine RL.val (x_moveI rfl) ?_
    refine RL.val (litT (x_eqI rfl rfl) (by decide)) ?_
    refine RL.nil ?_
    refine Run.condT rfl ?_
    obtain ⟨l1, l2, hts⟩ := pk_mid hp_3
    obtain ⟨hpm, hM2, hRp⟩ := hM.open hts
    obtain ⟨hO, hA, hvk⟩ := hpm
    clear hM
    have pr_18 : ¬ ownS p_2.s b := fun h_ => hsb ((mgs_p hts) _ h_)
    have pr_19 : ∀ q_, ownS p_2.s q_ → ¬ one pm q_ := fun q_ h_ => (mp_of hsp) q_ ((mgs_p hts) q_ h_)
    have pr_20 : ∀ q_, ownS p_2.s q_ → ¬ one cm q_ := fun q_ h_ => (mp_of hsc) q_ ((mgs_p hts) q_ h_)
    have pr_21 : ¬ ownS p_2.s b_7 := fun h_ => pr_15 ((mgs_p hts) _ h_)
    have pr_22 : ¬ mgsS (l1 ++ l2) b := fun h_ => hsb ((mgs_r hts) _ h_)
    have pr_23 : ∀ q_, mgsS (l1 ++ l2) q_ → ¬ one pm q_ := fun q_ h_ => (mp_of hsp) q_ ((mgs_r hts) q_ h_)
    have pr_24 : ∀ q_, mgsS (l1 ++ l2) q_ → ¬ one cm q_ := fun q_ h_ => (mp_of hsc) q_ ((mgs_r hts) q_ h_)
    have pr_25 : ¬ mgsS (l1 ++ l2) b_7 := fun h_ => pr_15 ((mgs_r hts) _ h_)
    refine Run.region ?_
    refine RL.val (x_moveP rfl) ?_
    refine RL.val (x_nilCheck rfl) ?_
    refine RL.val (x_fld (o' := 1) Tryz.underlying64 rfl ty61 rfl rfl rfl) ?_
    refine RL.val (x_ld (v := .map (some pm)) ty61 rfl rfl (hB.cl.field (i := 1) rfl)) ?_
    refine RL.val (x_moveI rfl) ?_
    refine RL.st rfl <| St1.deleteMap Tryz.underlying61 Tryz.underlying3 rfl rfl rfl hP ?_
    intro w_26 hM_27 K_28
    replace hM_27 : MapAt w_26 pm (pents (l1 ++ l2)) := (pents_del hok.rise hts hpi_4 ▸ hM_27)
    replace hB := hB.keep K_28 hn1
    replace hC := hC.keepO K_28 (cp_of hn3)
    replace hb_10 := hb_10.keep K_28 pr_13
    replace hO := hO.keepO K_28 pr_19
    replace hM2 := hM2.keepO K_28 pr_23
    replace K0 := K0.trans K_28 (fun x hlt hx => (fun q_ h_ _ => wf_p q_ h_) x hx hlt)
    replace hP := hM_27
    clear hM_27
    refine RL.nil ?_
    refine Run.seq ?_
    refine Run.region ?_
    refine RL.val (x_moveI rfl) ?_
    refine RL.val (x_assignI rfl) ?_
    refine RL.nil ?_
    refine Run.ret1 (v := .int .i64 (0)) Tryz.func20 rfl rfl ?_
    exact ⟨_, rfl, .inr ⟨p_2, l1, l2, hts, hpi_4, rfl, ⟨hB, hP, hC, hM2, hn1, hn2, hn3, pr_22, (fun h_ => pr_23 _ h_ rfl), (fun h_ => pr_24 _ h_ rfl), hok.del hts⟩, K0⟩⟩
  · replace hB := hB.ext K_5
    replace hP := hP.ext K_5
    replace hC := hC.ext K_5
    replace hM := hM.ext K_5
    have K0 := (K_5 : Ext w _).to (S := (wF b pm cm))
    refine RL.val (x_moveT rfl) ?_
    refine RL.val (x_extract rfl rfl) ?_
    refine RL.val (x_extract rfl rfl) ?_
    refine RL.st rfl <| St1.alloc ty57 ?_
    intro b_29 w_30 hl_33 hb_32 K_31
    replace hb_32 : Blk w_30 b_29 [.int .i64 (0), .int .i64 (0), .int .i64 (0), .int .i64 (0), .string (⟨#[]⟩), .slice (none) (0) (0), .slice (none) (0) (0), .slice (none) (0) (0), .int .i64 (0), .int .i64 (0), .int .i64 (0), .int .i64 (0), .int .i64 (0), .int .i64 (0), .slice (none) (0) (0), .slice (none) (0) (0), .slice (none) (0) (0)] 57 := hb_32
    have ne_34 : b < b_29 := Nat.lt_of_lt_of_le hB.lt hl_33
    have pr_35 : ¬ one pm b_29 := fun h => absurd (hP.own_lt _ h) (by omega)
    have pr_36 : ¬ one cm b_29 := fun h => absurd (hC.own_lt _ h) (by omega)
    have pr_37 : ¬ mgsS ts b_29 := fun h => absurd (hM.own_lt _ h) (by omega)
    have : w.heap.size ≤ b_29 := Nat.le_trans K0.size hl_33
    clear hl_33
    replace hB := hB.ext K_31
    replace hP := hP.ext K_31
    replace hC := hC.ext K_31
    replace hM := hM.ext K_31
    replace K0 := K0.ext K_31
    refine RL.st rfl <| St1.store (v := .agg #[.int .i64 (((mkC nilV nilS)).kind), .int .i64 (((mkC nilV nilS)).frm), .int .i64 (((mkC nilV nilS)).to), .int .i64 (((mkC nilV nilS)).req), .string (((mkC nilV nilS)).key), .slice (nilS.ea) (nilV.ent.length) (nilS.ec), .slice (nilS.ma) (nilV.mrk.length) (nilS.mc), .slice (nilS.ca) (nilV.cl.length) (nilS.cc), .int .i64 (((mkC nilV nilS)).owner), .int .i64 (((mkC nilV nilS)).part), .int .i64 (((mkC nilV nilS)).n), .int .i64 ((((mkC nilV nilS)).ring).parts), .int .i64 ((((mkC nilV nilS)).ring).copies), .int .i64 ((((mkC nilV nilS)).ring).spots), .slice (nilS.ba) (nilV.mem.length) (nilS.bc), .slice (nilS.pa) (nilV.pe.length) (nilS.pc), .slice (nilS.sa) (nilV.su.length) (nilS.sc)]) ty57 rfl rfl rfl (by simp [Value.cells, Value.oneCell']) hb_32 (by simp) ?_
    intro w_38 hb_32_ K_39
    have hb_32' : Blk w_38 b_29 [.int .i64 (((mkC nilV nilS)).kind), .int .i64 (((mkC nilV nilS)).frm), .int .i64 (((mkC nilV nilS)).to), .int .i64 (((mkC nilV nilS)).req), .string (((mkC nilV nilS)).key), .slice (nilS.ea) (nilV.ent.length) (nilS.ec), .slice (nilS.ma) (nilV.mrk.length) (nilS.mc), .slice (nilS.ca) (nilV.cl.length) (nilS.cc), .int .i64 (((mkC nilV nilS)).owner), .int .i64 (((mkC nilV nilS)).part), .int .i64 (((mkC nilV nilS)).n), .int .i64 ((((mkC nilV nilS)).ring).parts), .int .i64 ((((mkC nilV nilS)).ring).copies), .int .i64 ((((mkC nilV nilS)).ring).spots), .slice (nilS.ba) (nilV.mem.length) (nilS.bc), .slice (nilS.pa) (nilV.pe.length) (nilS.pc), .slice (nilS.sa) (nilV.su.length) (nilS.sc)] 57 := hb_32_
    clear hb_32_
    replace hB := hB.keep K_39 (by simp only [one]; omega)
    replace hP := hP.keepO K_39 (fun q_ hq_ eq_ => pr_35 (by simp only [one] at eq_; rw [← eq_]; exact hq_))
    replace hC := hC.keepO K_39 (fun q_ hq_ eq_ => pr_36 (by simp only [one] at eq_; rw [← eq_]; exact hq_))
    replace hM := hM.keepO K_39 (fun q_ hq_ eq_ => pr_37 (by simp only [one] at eq_; rw [← eq_]; exact hq_))
    replace K0 := K0.trans K_39 (fun x hlt hx => absurd hlt (by simp only [one] at hx; omega))
    replace hb_32 := hb_32'
    clear hb_32'
    refine RL.val (x_assignI rfl) ?_
    refine RL.nil ?_
    refine Run.seq ?_
    refine Run.seq ?_
    refine Run.region ?_
    refine RL.val (x_moveI rfl) ?_
    refine RL.val (litF (x_eqI rfl rfl) (by decide)) ?_
    refine RL.nil ?_
    refine Run.condF rfl ?_
    refine Run.skip ?_
    refine Run.seq ?_
    refine Run.region ?_
    refine RL.val (x_moveI rfl) ?_
    refine RL.val (x_assignI rfl) ?_
    refine RL.nil ?_
    refine Run.ret1 (v := .int .i64 (221)) Tryz.func20 rfl rfl ?_
    exact ⟨_, rfl, .inl ⟨hno_6, rfl, ⟨hB, hP, hC, hM, hn1, hn2, hn3, hsb, (fun h_ => (mp_of hsp) _ h_ rfl), (fun h_ => (mp_of hsc) _ h_ rfl), hok⟩, K0⟩⟩

set_option maxRecDepth 100000 in
set_option maxHeartbeats 4000000 in
theorem twiceNil  (i : Int) (w : World) :
    Calls Tryz.prog 22 #[.pointer none, .int .i64 (i)] w (Ret (fun v w' => v = .int .i64 8 ∧ Ext w w')) := by
  refine calls_run (n := 25) Tryz.func22 rfl rfl rfl ?_
  refine Run.seq ?_
  refine Run.region ?_
  refine RL.val (x_assignI rfl) ?_
  refine RL.nil ?_
  refine Run.seq ?_
  refine Run.region ?_
  refine RL.val (x_moveP rfl) ?_
  refine RL.val (x_moveI rfl) ?_
  refine RL.st rfl <| St1.call (vals := [.pointer none, .int .i64 (i)]) en42 rfl (lookNil _ _) ?_
  rintro _ w_1 ⟨rfl, K_2⟩
  have K0 := (K_2 : Ext w _)
  refine RL.val (x_moveT rfl) ?_
  refine RL.val (x_extract rfl rfl) ?_
  refine RL.val (x_extract rfl rfl) ?_
  refine RL.st rfl <| St1.alloc ty57 ?_
  intro b_3 w_4 hl_7 hb_6 K_5
  replace hb_6 : Blk w_4 b_3 [.int .i64 (0), .int .i64 (0), .int .i64 (0), .int .i64 (0), .string (⟨#[]⟩), .slice (none) (0) (0), .slice (none) (0) (0), .slice (none) (0) (0), .int .i64 (0), .int .i64 (0), .int .i64 (0), .int .i64 (0), .int .i64 (0), .int .i64 (0), .slice (none) (0) (0), .slice (none) (0) (0), .slice (none) (0) (0)] 57 := hb_6
  have : w.heap.size ≤ b_3 := Nat.le_trans K0.size hl_7
  clear hl_7
  replace K0 := K0.ext K_5
  refine RL.st rfl <| St1.store (v := .agg #[.int .i64 (((mkC nilV nilS)).kind), .int .i64 (((mkC nilV nilS)).frm), .int .i64 (((mkC nilV nilS)).to), .int .i64 (((mkC nilV nilS)).req), .string (((mkC nilV nilS)).key), .slice (nilS.ea) (nilV.ent.length) (nilS.ec), .slice (nilS.ma) (nilV.mrk.length) (nilS.mc), .slice (nilS.ca) (nilV.cl.length) (nilS.cc), .int .i64 (((mkC nilV nilS)).owner), .int .i64 (((mkC nilV nilS)).part), .int .i64 (((mkC nilV nilS)).n), .int .i64 ((((mkC nilV nilS)).ring).parts), .int .i64 ((((mkC nilV nilS)).ring).copies), .int .i64 ((((mkC nilV nilS)).ring).spots), .slice (nilS.ba) (nilV.mem.length) (nilS.bc), .slice (nilS.pa) (nilV.pe.length) (nilS.pc), .slice (nilS.sa) (nilV.su.length) (nilS.sc)]) ty57 rfl rfl rfl (by simp [Value.cells, Value.oneCell']) hb_6 (by simp) ?_
  intro w_8 hb_6_ K_9
  have hb_6' : Blk w_8 b_3 [.int .i64 (((mkC nilV nilS)).kind), .int .i64 (((mkC nilV nilS)).frm), .int .i64 (((mkC nilV nilS)).to), .int .i64 (((mkC nilV nilS)).req), .string (((mkC nilV nilS)).key), .slice (nilS.ea) (nilV.ent.length) (nilS.ec), .slice (nilS.ma) (nilV.mrk.length) (nilS.mc), .slice (nilS.ca) (nilV.cl.length) (nilS.cc), .int .i64 (((mkC nilV nilS)).owner), .int .i64 (((mkC nilV nilS)).part), .int .i64 (((mkC nilV nilS)).n), .int .i64 ((((mkC nilV nilS)).ring).parts), .int .i64 ((((mkC nilV nilS)).ring).copies), .int .i64 ((((mkC nilV nilS)).ring).spots), .slice (nilS.ba) (nilV.mem.length) (nilS.bc), .slice (nilS.pa) (nilV.pe.length) (nilS.pc), .slice (nilS.sa) (nilV.su.length) (nilS.sc)] 57 := hb_6_
  clear hb_6_
  replace K0 := K0.new K_9 (fun x hx => by simp only [one] at hx; omega)
  replace hb_6 := hb_6'
  clear hb_6'
  refine RL.val (x_assignI rfl) ?_
  refine RL.nil ?_
  refine Run.seq ?_
  refine Run.seq ?_
  refine Run.region ?_
  refine RL.val (x_moveI rfl) ?_
  refine RL.val (litT (x_neI rfl rfl) (by decide)) ?_
  refine RL.nil ?_
  refine Run.condT rfl ?_
  refine Run.seq ?_
  refine Run.region ?_
  refine RL.val (x_moveI rfl) ?_
  refine RL.val (x_assignI rfl) ?_
  refine RL.nil ?_
  refine Run.ret1 (v := .int .i64 (8)) Tryz.func22 rfl rfl ?_
  exact ⟨_, rfl, rfl, K0⟩

set_option maxRecDepth 100000 in
set_option maxHeartbeats 4000000 in
theorem twiceZero (b : Nat) (i : Int) (w : World) (hB : Blk w b [.int .i64 0, .map none, .map none, .int .i64 0, .int .i64 0] 64) :
    Calls Tryz.prog 22 #[.pointer (some ⟨b, 0, none⟩), .int .i64 (i)] w (Ret (fun v w' => v = .int .i64 8 ∧ Ext w w')) := by
  refine calls_run (n := 25) Tryz.func22 rfl rfl rfl ?_
  refine Run.seq ?_
  refine Run.region ?_
  refine RL.val (x_assignI rfl) ?_
  refine RL.nil ?_
  refine Run.seq ?_
  refine Run.region ?_
  refine RL.val (x_moveP rfl) ?_
  refine RL.val (x_moveI rfl) ?_
  refine RL.st rfl <| St1.call (vals := [.pointer (some ⟨b, 0, none⟩), .int .i64 (i)]) en42 rfl (lookZero _ _ _ hB) ?_
  rintro _ w_1 ⟨rfl, K_2⟩
  replace hB := hB.ext K_2
  have K0 := (K_2 : Ext w _)
  refine RL.val (x_moveT rfl) ?_
  refine RL.val (x_extract rfl rfl) ?_
  refine RL.val (x_extract rfl rfl) ?_
  refine RL.st rfl <| St1.alloc ty57 ?_
  intro b_3 w_4 hl_7 hb_6 K_5
  replace hb_6 : Blk w_4 b_3 [.int .i64 (0), .int .i64 (0), .int .i64 (0), .int .i64 (0), .string (⟨#[]⟩), .slice (none) (0) (0), .slice (none) (0) (0), .slice (none) (0) (0), .int .i64 (0), .int .i64 (0), .int .i64 (0), .int .i64 (0), .int .i64 (0), .int .i64 (0), .slice (none) (0) (0), .slice (none) (0) (0), .slice (none) (0) (0)] 57 := hb_6
  have ne_8 : b < b_3 := Nat.lt_of_lt_of_le hB.lt hl_7
  have : w.heap.size ≤ b_3 := Nat.le_trans K0.size hl_7
  clear hl_7
  replace hB := hB.ext K_5
  replace K0 := K0.ext K_5
  refine RL.st rfl <| St1.store (v := .agg #[.int .i64 (((mkC nilV nilS)).kind), .int .i64 (((mkC nilV nilS)).frm), .int .i64 (((mkC nilV nilS)).to), .int .i64 (((mkC nilV nilS)).req), .string (((mkC nilV nilS)).key), .slice (nilS.ea) (nilV.ent.length) (nilS.ec), .slice (nilS.ma) (nilV.mrk.length) (nilS.mc), .slice (nilS.ca) (nilV.cl.length) (nilS.cc), .int .i64 (((mkC nilV nilS)).owner), .int .i64 (((mkC nilV nilS)).part), .int .i64 (((mkC nilV nilS)).n), .int .i64 ((((mkC nilV nilS)).ring).parts), .int .i64 ((((mkC nilV nilS)).ring).copies), .int .i64 ((((mkC nilV nilS)).ring).spots), .slice (nilS.ba) (nilV.mem.length) (nilS.bc), .slice (nilS.pa) (nilV.pe.length) (nilS.pc), .slice (nilS.sa) (nilV.su.length) (nilS.sc)]) ty57 rfl rfl rfl (by simp [Value.cells, Value.oneCell']) hb_6 (by simp) ?_
  intro w_9 hb_6_ K_10
  have hb_6' : Blk w_9 b_3 [.int .i64 (((mkC nilV nilS)).kind), .int .i64 (((mkC nilV nilS)).frm), .int .i64 (((mkC nilV nilS)).to), .int .i64 (((mkC nilV nilS)).req), .string (((mkC nilV nilS)).key), .slice (nilS.ea) (nilV.ent.length) (nilS.ec), .slice (nilS.ma) (nilV.mrk.length) (nilS.mc), .slice (nilS.ca) (nilV.cl.length) (nilS.cc), .int .i64 (((mkC nilV nilS)).owner), .int .i64 (((mkC nilV nilS)).part), .int .i64 (((mkC nilV nilS)).n), .int .i64 ((((mkC nilV nilS)).ring).parts), .int .i64 ((((mkC nilV nilS)).ring).copies), .int .i64 ((((mkC nilV nilS)).ring).spots), .slice (nilS.ba) (nilV.mem.length) (nilS.bc), .slice (nilS.pa) (nilV.pe.length) (nilS.pc), .slice (nilS.sa) (nilV.su.length) (nilS.sc)] 57 := hb_6_
  clear hb_6_
  replace hB := hB.keep K_10 (by simp only [one]; omega)
  replace K0 := K0.new K_10 (fun x hx => by simp only [one] at hx; omega)
  replace hb_6 := hb_6'
  clear hb_6'
  refine RL.val (x_assignI rfl) ?_
  refine RL.nil ?_
  refine Run.seq ?_
  refine Run.seq ?_
  refine Run.region ?_
  refine RL.val (x_moveI rfl) ?_
  refine RL.val (litT (x_neI rfl rfl) (by decide)) ?_
  refine RL.nil ?_
  refine Run.condT rfl ?_
  refine Run.seq ?_
  refine Run.region ?_
  refine RL.val (x_moveI rfl) ?_
  refine RL.val (x_assignI rfl) ?_
  refine RL.nil ?_
  refine Run.ret1 (v := .int .i64 (8)) Tryz.func22 rfl rfl ?_
  exact ⟨_, rfl, rfl, K0⟩

set_option maxRecDepth 100000 in
set_option maxHeartbeats 4000000 in
theorem twice_ (b pm cm : Nat) (nodes id now : Int) (ts : List Pk) (cs : List LinkC) (i : Int) (w : World) (hD : WldO w b pm cm nodes id now ts cs) (hid : id ≤ 100000000) :
    Calls Tryz.prog 22 #[.pointer (some ⟨b, 0, none⟩), .int .i64 (i)] w (Ret (fun r w' => ((¬ ∃ p ∈ ts, p.id = i) ∧ r = .int .i64 221 ∧ WldO w' b pm cm nodes id now ts cs ∧ Keeps (wF b pm cm) w w') ∨ ((∃ p ∈ ts, p.id = i) ∧ 512 ≤ ts.length ∧ r = .int .i64 7 ∧ WldO w' b pm cm nodes id now ts cs ∧ Keeps (wF b pm cm) w w') ∨ (∃ p s', p ∈ ts ∧ p.id = i ∧ ts.length < 512 ∧ r = .int .i64 0 ∧ WldO w' b pm cm nodes (id + 1) now (ts ++ [⟨id + 1, p.v, s'⟩]) cs ∧ MovedS w (mgsS ts) (mgsS (ts ++ [⟨id + 1, p.v, s'⟩])) ∧ Keeps (wF b pm cm) w w'))) := by
  obtain ⟨hB, hP, hC, hM, hn1, hn2, hn3, hsb, hsp, hsc, hok⟩ := hD
  obtain ⟨hno1, hno2⟩ := hok.nodes
  obtain ⟨hnw1, hnw2⟩ := hok.now
  have hid0 := hok.id0
  have hl5 := hok.len
  rw [p_len] at hl5
  have hpl := pents_len ts
  refine calls_run (n := 25) Tryz.func22 rfl rfl rfl ?_
  refine Run.seq ?_
  refine Run.region ?_
  refine RL.val (x_assignI rfl) ?_
  refine RL.nil ?_
  refine Run.seq ?_
  refine Run.region ?_
  refine RL.val (x_moveP rfl) ?_
  refine RL.val (x_moveI rfl) ?_
  refine RL.st rfl <| St1.call (vals := [.pointer (some ⟨b, 0, none⟩), .int .i64 (i)]) en42 rfl (look_ b pm cm nodes id now ts cs i _ (⟨hB, hP, hC, hM, hn1, hn2, hn3, hsb, (fun h_ => (mp_of hsp) _ h_ rfl), (fun h_ => (mp_of hsc) _ h_ rfl), hok⟩ : WldO _ b pm cm nodes id now ts cs)) ?_
  rintro _ w_1 (⟨p_2, hp_3, hpi_4, rfl, K_5⟩ | ⟨hno_6, rfl, K_5⟩)
  · replace hB := hB.ext K_5
    replace hP := hP.ext K_5
    replace hC := hC.ext K_5
    replace hM := hM.ext K_5
    have K0 := (K_5 : Ext w _).to (S := (wF b pm cm))
    refine RL.val (x_moveT rfl) ?_
    refine RL.val (x_extract rfl rfl) ?_
    refine RL.val (x_extract rfl rfl) ?_
    refine RL.st rfl <| St1.alloc ty57 ?_
    intro b_7 w_8 hl_11 hb_10 K_9
    replace hb_10 : Blk w_8 b_7 [.int .i64 (0), .int .i64 (0), .int .i64 (0), .int .i64 (0), .string (⟨#[]⟩), .slice (none) (0) (0), .slice (none) (0) (0), .slice (none) (0) (0), .int .i64 (0), .int .i64 (0), .int .i64 (0), .int .i64 (0), .int .i64 (0), .int .i64 (0), .slice (none) (0) (0), .slice (none) (0) (0), .slice (none) (0) (0)] 57 := hb_10
    have ne_12 : b < b_7 := Nat.lt_of_lt_of_le hB.lt hl_11
    have pr_13 : ¬ one pm b_7 := fun h => absurd (hP.own_lt _ h) (by omega)
    have pr_14 : ¬ one cm b_7 := fun h => absurd (hC.own_lt _ h) (by omega)
    have pr_15 : ¬ mgsS ts b_7 := fun h => absurd (hM.own_lt _ h) (by omega)
    have : w.heap.size ≤ b_7 := Nat.le_trans K0.size hl_11
    clear hl_11
    replace hB := hB.ext K_9
    replace hP := hP.ext K_9
    replace hC := hC.ext K_9
    replace hM := hM.ext K_9
    replace K0 := K0.ext K_9
    refine RL.st rfl <| St1.store (v := .agg #[.int .i64 (((mkC p_2.v p_2.s)).kind), .int .i64 (((mkC p_2.v p_2.s)).frm), .int .i64 (((mkC p_2.v p_2.s)).to), .int .i64 (((mkC p_2.v p_2.s)).req), .string (((mkC p_2.v p_2.s)).key), .slice (p_2.s.ea) (p_2.v.ent.length) (p_2.s.ec), .slice (p_2.s.ma) (p_2.v.mrk.length) (p_2.s.mc), .slice (p_2.s.ca) (p_2.v.cl.length) (p_2.s.cc), .int .i64 (((mkC p_2.v p_2.s)).owner), .int .i64 (((mkC p_2.v p_2.s)).part), .int .i64 (((mkC p_2.v p_2.s)).n), .int .i64 ((((mkC p_2.v p_2.s)).ring).parts), .int .i64 ((((mkC p_2.v p_2.s)).ring).copies), .int .i64 ((((mkC p_2.v p_2.s)).ring).spots), .slice (p_2.s.ba) (p_2.v.mem.length) (p_2.s.bc), .slice (p_2.s.pa) (p_2.v.pe.length) (p_2.s.pc), .slice (p_2.s.sa) (p_2.v.su.length) (p_2.s.sc)]) ty57 rfl rfl rfl (by simp [Value.cells, Value.oneCell']) hb_10 (by simp) ?_
    intro w_16 hb_10_ K_17
    have hb_10' : Blk w_16 b_7 [.int .i64 (((mkC p_2.v p_2.s)).kind), .int .i64 (((mkC p_2.v p_2.s)).frm), .int .i64 (((mkC p_2.v p_2.s)).to), .int .i64 (((mkC p_2.v p_2.s)).req), .string (((mkC p_2.v p_2.s)).key), .slice (p_2.s.ea) (p_2.v.ent.length) (p_2.s.ec), .slice (p_2.s.ma) (p_2.v.mrk.length) (p_2.s.mc), .slice (p_2.s.ca) (p_2.v.cl.length) (p_2.s.cc), .int .i64 (((mkC p_2.v p_2.s)).owner), .int .i64 (((mkC p_2.v p_2.s)).part), .int .i64 (((mkC p_2.v p_2.s)).n), .int .i64 ((((mkC p_2.v p_2.s)).ring).parts), .int .i64 ((((mkC p_2.v p_2.s)).ring).copies), .int .i64 ((((mkC p_2.v p_2.s)).ring).spots), .slice (p_2.s.ba) (p_2.v.mem.length) (p_2.s.bc), .slice (p_2.s.pa) (p_2.v.pe.length) (p_2.s.pc), .slice (p_2.s.sa) (p_2.v.su.length) (p_2.s.sc)] 57 := hb_10_
    clear hb_10_
    replace hB := hB.keep K_17 (by simp only [one]; omega)
    replace hP := hP.keepO K_17 (fun q_ hq_ eq_ => pr_13 (by simp only [one] at eq_; rw [← eq_]; exact hq_))
    replace hC := hC.keepO K_17 (fun q_ hq_ eq_ => pr_14 (by simp only [one] at eq_; rw [← eq_]; exact hq_))
    replace hM := hM.keepO K_17 (fun q_ hq_ eq_ => pr_15 (by simp only [one] at eq_; rw [← eq_]; exact hq_))
    replace K0 := K0.trans K_17 (fun x hlt hx => absurd hlt (by simp only [one] at hx; omega))
    replace hb_10 := hb_10'
    clear hb_10'
    refine RL.val (x_assignI rfl) ?_
    refine RL.nil ?_
    refine Run.seq ?_
    refine Run.seq ?_
    refine Run.region ?_
    refine RL.val (x_moveI rfl) ?_
    refine RL.val (litF (x_neI rfl rfl) (by decide)) ?_
    refine RL.nil ?_
    refine Run.condF rfl ?_
    refine Run.skip ?_
    refine Run.seq ?_
    refine Run.seq ?_
    refine Run.region ?_
    refine RL.val (x_moveP rfl) ?_
    refine RL.val (x_nilCheck rfl) ?_
    refine RL.val (x_fld (o' := 1) Tryz.underlying64 rfl ty61 rfl rfl rfl) ?_
    refine RL.val (x_ld (v := .map (some pm)) ty61 rfl rfl (hB.cl.field (i := 1) rfl)) ?_
    refine RL.val (x_lenMap Tryz.underlying61 rfl hP) ?_
    refine RL.val (x_geI rfl rfl) ?_
    refine RL.nil ?_
    refine Run.cond rfl (fun hc21 => ?_) (fun hc21 => ?_)
    · try simp only [br] at hc21
      refine Run.seq ?_
      refine Run.region ?_
      refine RL.val (x_assignI rfl) ?_
      refine RL.nil ?_
      refine Run.ret1 (v := .int .i64 (7)) Tryz.func22 rfl rfl ?_
      exact ⟨_, rfl, .inr (.inl ⟨⟨p_2, hp_3, hpi_4⟩, by omega, rfl, ⟨hB, hP, hC, hM, hn1, hn2, hn3, hsb, (fun h_ => (mp_of hsp) _ h_ rfl), (fun h_ => (mp_of hsc) _ h_ rfl), hok⟩, K0⟩)⟩
    · try simp only [br] at hc21
      refine Run.skip ?_
      refine Run.seq ?_
      have hsz := K0.size
      refine Run.region ?_
      refine RL.val (x_moveP rfl) ?_
      refine RL.val (x_lds (cs := #[.int .i64 (((mkC p_2.v p_2.s)).kind), .int .i64 (((mkC p_2.v p_2.s)).frm), .int .i64 (((mkC p_2.v p_2.s)).to), .int .i64 (((mkC p_2.v p_2.s)).req), .string (((mkC p_2.v p_2.s)).key), .slice (p_2.s.ea) (p_2.v.ent.length) (p_2.s.ec), .slice (p_2.s.ma) (p_2.v.mrk.length) (p_2.s.mc), .slice (p_2.s.ca) (p_2.v.cl.length) (p_2.s.cc), .int .i64 (((mkC p_2.v p_2.s)).owner), .int .i64 (((mkC p_2.v p_2.s)).part), .int .i64 (((mkC p_2.v p_2.s)).n), .int .i64 ((((mkC p_2.v p_2.s)).ring).parts), .int .i64 ((((mkC p_2.v p_2.s)).ring).copies), .int .i64 ((((mkC p_2.v p_2.s)).ring).spots), .slice (p_2.s.ba) (p_2.v.mem.length) (p_2.s.bc), .slice (p_2.s.pa) (p_2.v.pe.length) (p_2.s.pc), .slice (p_2.s.sa) (p_2.v.su.length) (p_2.s.sc)]) ty57 rfl rfl (hb_10.cl.drop 0 17)) ?_
      refine RL.st rfl <| St1.call (vals := [.pointer (some ⟨b, 0, none⟩), .agg #[.int .i64 (((mkC p_2.v p_2.s)).kind), .int .i64 (((mkC p_2.v p_2.s)).frm), .int .i64 (((mkC p_2.v p_2.s)).to), .int .i64 (((mkC p_2.v p_2.s)).req), .string (((mkC p_2.v p_2.s)).key), .slice (p_2.s.ea) (p_2.v.ent.length) (p_2.s.ec), .slice (p_2.s.ma) (p_2.v.mrk.length) (p_2.s.mc), .slice (p_2.s.ca) (p_2.v.cl.length) (p_2.s.cc), .int .i64 (((mkC p_2.v p_2.s)).owner), .int .i64 (((mkC p_2.v p_2.s)).part), .int .i64 (((mkC p_2.v p_2.s)).n), .int .i64 ((((mkC p_2.v p_2.s)).ring).parts), .int .i64 ((((mkC p_2.v p_2.s)).ring).copies), .int .i64 ((((mkC p_2.v p_2.s)).ring).spots), .slice (p_2.s.ba) (p_2.v.mem.length) (p_2.s.bc), .slice (p_2.s.pa) (p_2.v.pe.length) (p_2.s.pc), .slice (p_2.s.sa) (p_2.v.su.length) (p_2.s.sc)]]) en41 rfl (put_ b pm cm nodes id now ts cs p_2.v p_2.s _ (⟨hB, hP, hC, hM, hn1, hn2, hn3, hsb, (fun h_ => (mp_of hsp) _ h_ rfl), (fun h_ => (mp_of hsc) _ h_ rfl), hok⟩ : WldO _ b pm cm nodes id now ts cs) ((hM.all p_2 hp_3).own.r) (hM.all p_2 hp_3).ok (by omega) (by omega) (fun h_ => hsb ⟨p_2, hp_3, rd_own _ h_⟩) (fun h_ => (mp_of hsp) _ ⟨p_2, hp_3, rd_own _ h_⟩ rfl) (fun h_ => (mp_of hsc) _ ⟨p_2, hp_3, rd_own _ h_⟩ rfl)) ?_
      rintro _ w_19 ⟨s_18, rfl, hD_20, hg_21, K_22⟩
      have hm_23 : MovedS w_16 (mgsS ts) (mgsS (ts ++ [(⟨id + 1, p_2.v, s_18⟩ : Pk)])) := fun q h => (mgs_snoc.1 h).imp (fun h_ => h_) (hg_21 q)
      have pr_25 : ¬ mgsS (ts ++ [(⟨id + 1, p_2.v, s_18⟩ : Pk)]) b := hm_23.not hsb hB.lt
      have pr_26 : ∀ q_, mgsS (ts ++ [(⟨id + 1, p_2.v, s_18⟩ : Pk)]) q_ → ¬ one pm q_ := hm_23.apart (mp_of hsp) hP.own_lt
      have pr_27 : ∀ q_, mgsS (ts ++ [(⟨id + 1, p_2.v, s_18⟩ : Pk)]) q_ → ¬ one cm q_ := hm_23.apart (mp_of hsc) hC.own_lt
      have pr_28 : ¬ mgsS (ts ++ [(⟨id + 1, p_2.v, s_18⟩ : Pk)]) b_7 := hm_23.not pr_15 hb_10.lt
      have pr_30 : ∀ q_, wF b pm cm q_ → ¬ mgsS ts q_ := fun q_ x_ z_ => ((fun q_ h_ => show q_ = b ∨ (q_ = pm ∨ q_ = cm) from h_) _ x_).elim (fun e_ => hsb (show mgsS ts b from e_ ▸ z_)) (fun y_ => y_.elim (fun y_ => (fun q_ h1 h2 => (mp_of hsp) q_ h2 h1) q_ y_ z_) (fun y_ => (fun y_ => (fun q_ h1 h2 => (mp_of hsc) q_ h2 h1) q_ y_ z_) y_))
      have pr_31 : ¬ wF b pm cm b_7 := fun x_ => ((fun q_ h_ => show q_ = b ∨ (q_ = pm ∨ q_ = cm) from h_) _ x_).elim (fun e_ => absurd e_ (by omega)) (fun y_ => y_.elim pr_13 (fun y_ => pr_14 y_))
      have pg_32 : ∀ q_, wF b pm cm q_ → q_ < w.heap.size → (wF b pm cm) q_ := fun q_ x_ hl_ => ((fun q_ h_ => show q_ = b ∨ (q_ = pm ∨ q_ = cm) from h_) _ x_).elim (fun e_ => e_ ▸ wf_b) (fun y_ => y_.elim (fun y_ => (fun q_ h_ _ => wf_p q_ h_) q_ y_ hl_) (fun y_ => (fun y_ => (fun q_ h_ _ => wf_c q_ h_) q_ y_ hl_) y_))
      replace hb_10 := hb_10.keep K_22 pr_31
      replace K0 := K0.trans K_22 (fun x hlt hx => pg_32 x hx hlt)
      replace hB := hD_20.blk
      replace hP := hD_20.pk
      replace hC := hD_20.cu
      replace hok := hD_20.ok
      have hM_24 := hD_20.ms
      have ne_33 : b ≠ b_7 := fun e_ => pr_31 (by rw [← e_]; exact wf_b)
      have pr_34 : ¬ mgsS (ts ++ [(⟨id + 1, p_2.v, s_18⟩ : Pk)]) b := fun h_ => (fun q_ h1 h2 => (ms_wF pr_25 pr_26 pr_27) q_ h2 h1) _ wf_b h_
      have if_35 : b < w.heap.size → (wF b pm cm) b := fun hl_ => pg_32 _ wf_b hl_
      have pr_36 : ¬ one pm b_7 := fun h_ => pr_31 (wf_p _ h_)
      have pr_37 : ∀ q_, one pm q_ → ¬ mgsS (ts ++ [(⟨id + 1, p_2.v, s_18⟩ : Pk)]) q_ := fun q_ h_ => (fun q_ h1 h2 => (ms_wF pr_25 pr_26 pr_27) q_ h2 h1) q_ (wf_p q_ h_)
      have pr_38 : ¬ one cm b_7 := fun h_ => pr_31 (wf_c _ h_)
      have pr_39 : ∀ q_, one cm q_ → ¬ mgsS (ts ++ [(⟨id + 1, p_2.v, s_18⟩ : Pk)]) q_ := fun q_ h_ => (fun q_ h1 h2 => (ms_wF pr_25 pr_26 pr_27) q_ h2 h1) q_ (wf_c q_ h_)
      refine RL.nil ?_
      refine Run.seq ?_
      refine Run.region ?_
      refine RL.val (x_assignI rfl) ?_
      refine RL.nil ?_
      refine Run.ret1 (v := .int .i64 (0)) Tryz.func22 rfl rfl ?_
      exact ⟨_, rfl, .inr (.inr ⟨p_2, s_18, hp_3, hpi_4, by omega, rfl, ⟨hB, hP, hC, hM_24, hn1, hn2, hn3, pr_34, (fun h_ => (fun q_ h1 h2 => pr_37 q_ h2 h1) _ h_ rfl), (fun h_ => (fun q_ h1 h2 => pr_39 q_ h2 h1) _ h_ rfl), hok⟩, fun q h => (mgs_snoc.1 h).imp (fun h_ => h_) (fun h_ => Nat.le_trans hsz (hg_21 q h_)), K0⟩)⟩
  · replace hB := hB.ext K_5
    replace hP := hP.ext K_5
    replace hC := hC.ext K_5
    replace hM := hM.ext K_5
    have K0 := (K_5 : Ext w _).to (S := (wF b pm cm))
    refine RL.val (x_moveT rfl) ?_
    refine RL.val (x_extract rfl rfl) ?_
    refine RL.val (x_extract rfl rfl) ?_
    refine RL.st rfl <| St1.alloc ty57 ?_
    intro b_40 w_41 hl_44 hb_43 K_42
    replace hb_43 : Blk w_41 b_40 [.int .i64 (0), .int .i64 (0), .int .i64 (0), .int .i64 (0), .string (⟨#[]⟩), .slice (none) (0) (0), .slice (none) (0) (0), .slice (none) (0) (0), .int .i64 (0), .int .i64 (0), .int .i64 (0), .int .i64 (0), .int .i64 (0), .int .i64 (0), .slice (none) (0) (0), .slice (none) (0) (0), .slice (none) (0) (0)] 57 := hb_43
    have ne_45 : b < b_40 := Nat.lt_of_lt_of_le hB.lt hl_44
    have pr_46 : ¬ one pm b_40 := fun h => absurd (hP.own_lt _ h) (by omega)
    have pr_47 : ¬ one cm b_40 := fun h => absurd (hC.own_lt _ h) (by omega)
    have pr_48 : ¬ mgsS ts b_40 := fun h => absurd (hM.own_lt _ h) (by omega)
    have : w.heap.size ≤ b_40 := Nat.le_trans K0.size hl_44
    clear hl_44
    replace hB := hB.ext K_42
    replace hP := hP.ext K_42
    replace hC := hC.ext K_42
    replace hM := hM.ext K_42
    replace K0 := K0.ext K_42
    refine RL.st rfl <| St1.store (v := .agg #[.int .i64 (((mkC nilV nilS)).kind), .int .i64 (((mkC nilV nilS)).frm), .int .i64 (((mkC nilV nilS)).to), .int .i64 (((mkC nilV nilS)).req), .string (((mkC nilV nilS)).key), .slice (nilS.ea) (nilV.ent.length) (nilS.ec), .slice (nilS.ma) (nilV.mrk.length) (nilS.mc), .slice (nilS.ca) (nilV.cl.length) (nilS.cc), .int .i64 (((mkC nilV nilS)).owner), .int .i64 (((mkC nilV nilS)).part), .int .i64 (((mkC nilV nilS)).n), .int .i64 ((((mkC nilV nilS)).ring).parts), .int .i64 ((((mkC nilV nilS)).ring).copies), .int .i64 ((((mkC nilV nilS)).ring).spots), .slice (nilS.ba) (nilV.mem.length) (nilS.bc), .slice (nilS.pa) (nilV.pe.length) (nilS.pc), .slice (nilS.sa) (nilV.su.length) (nilS.sc)]) ty57 rfl rfl rfl (by simp [Value.cells, Value.oneCell']) hb_43 (by simp) ?_
    intro w_49 hb_43_ K_50
    have hb_43' : Blk w_49 b_40 [.int .i64 (((mkC nilV nilS)).kind), .int .i64 (((mkC nilV nilS)).frm), .int .i64 (((mkC nilV nilS)).to), .int .i64 (((mkC nilV nilS)).req), .string (((mkC nilV nilS)).key), .slice (nilS.ea) (nilV.ent.length) (nilS.ec), .slice (nilS.ma) (nilV.mrk.length) (nilS.mc), .slice (nilS.ca) (nilV.cl.length) (nilS.cc), .int .i64 (((mkC nilV nilS)).owner), .int .i64 (((mkC nilV nilS)).part), .int .i64 (((mkC nilV nilS)).n), .int .i64 ((((mkC nilV nilS)).ring).parts), .int .i64 ((((mkC nilV nilS)).ring).copies), .int .i64 ((((mkC nilV nilS)).ring).spots), .slice (nilS.ba) (nilV.mem.length) (nilS.bc), .slice (nilS.pa) (nilV.pe.length) (nilS.pc), .slice (nilS.sa) (nilV.su.length) (nilS.sc)] 57 := hb_43_
    clear hb_43_
    replace hB := hB.keep K_50 (by simp only [one]; omega)
    replace hP := hP.keepO K_50 (fun q_ hq_ eq_ => pr_46 (by simp only [one] at eq_; rw [← eq_]; exact hq_))
    replace hC := hC.keepO K_50 (fun q_ hq_ eq_ => pr_47 (by simp only [one] at eq_; rw [← eq_]; exact hq_))
    replace hM := hM.keepO K_50 (fun q_ hq_ eq_ => pr_48 (by simp only [one] at eq_; rw [← eq_]; exact hq_))
    replace K0 := K0.trans K_50 (fun x hlt hx => absurd hlt (by simp only [one] at hx; omega))
    replace hb_43 := hb_43'
    clear hb_43'
    refine RL.val (x_assignI rfl) ?_
    refine RL.nil ?_
    refine Run.seq ?_
    refine Run.seq ?_
    refine Run.region ?_
    refine RL.val (x_moveI rfl) ?_
    refine RL.val (litT (x_neI rfl rfl) (by decide)) ?_
    refine RL.nil ?_
    refine Run.condT rfl ?_
    refine Run.seq ?_
    refine Run.region ?_
    refine RL.val (x_moveI rfl) ?_
    refine RL.val (x_assignI rfl) ?_
    refine RL.nil ?_
    refine Run.ret1 (v := .int .i64 (221)) Tryz.func22 rfl rfl ?_
    exact ⟨_, rfl, .inl ⟨hno_6, rfl, ⟨hB, hP, hC, hM, hn1, hn2, hn3, hsb, (fun h_ => (mp_of hsp) _ h_ rfl), (fun h_ => (mp_of hsc) _ h_ rfl), hok⟩, K0⟩⟩

set_option maxRecDepth 100000 in
set_option maxHeartbeats 4000000 in
theorem send_ (b pm cm : Nat) (nodes id now : Int) (ts : List Pk) (cs : List LinkC) (al : Option Addr) (ms : List Mg) (lc : Nat) (w : World) (hD : WldO w b pm cm nodes id now ts cs) (hl : SlOf w al (ms.map Mg.c)) (hld : ∀ x, al = some x → ms.map Mg.c ≠ [] → ¬ wS b pm cm ts x.block) (hms : ∀ m ∈ ms, SixR w m.s m.v ∧ VOk m.v ∧ ∀ q, rdS m.s m.v q → ¬ wS b pm cm ts q) (hml : ms.length ≤ 1048576) (hid : id ≤ 100000000) :
    Calls Tryz.prog 13 #[.pointer (some ⟨b, 0, none⟩), .slice (al) ((ms.map Mg.c).length) (lc)] w (Ret (fun r w' => ∃ us, r = .int .i64 (((snI nodes id (ts.map Pk.p) (ms.map Mg.v) ms.length).n : Nat) : Int) ∧ WldO w' b pm cm nodes (snI nodes id (ts.map Pk.p) (ms.map Mg.v) ms.length).id now us cs ∧ us.map Pk.p = (snI nodes id (ts.map Pk.p) (ms.map Mg.v) ms.length).pv ∧ MovedS w (mgsS ts) (mgsS us) ∧ Keeps (wS b pm cm ts) w w')) := by
  obtain ⟨hB, hP, hC, hM, hn1, hn2, hn3, hsb, hsp, hsc, hok⟩ := hD
  obtain ⟨hno1, hno2⟩ := hok.nodes
  obtain ⟨hnw1, hnw2⟩ := hok.now
  have hid0 := hok.id0
  have hl5 := hok.len
  rw [p_len] at hl5
  have hpl := pents_len ts
  have hmc : (ms.map Mg.c).length = ms.length := List.length_map ..
  have hmv0 : (ms.map Mg.v).length = ms.length := List.length_map ..
  refine calls_run (n := 42) Tryz.func13 rfl rfl rfl ?_
  refine Run.seq ?_
  refine Run.region ?_
  refine RL.val (x_assignI rfl) ?_
  refine RL.nil ?_
  refine Run.seq ?_
  refine Run.region ?_
  refine RL.val (x_assignI rfl) ?_
  refine RL.nil ?_
  refine Run.seq ?_
  refine Run.seq ?_
  refine Run.region ?_
  refine RL.val (x_moveSl rfl) ?_
  refine RL.val (x_lenSl Tryz.underlying31 rfl) ?_
  refine RL.val (x_moveI rfl) ?_
  refine RL.nil ?_
  refine Run.block ?_
  refine Run.loop (ι := Nat) (fun i ρ' w' => ∃ us : List Pk, Holds ρ' [(0, .pointer (some ⟨b, 0, none⟩)), (5, .int .i64 ((((snI nodes id (ts.map Pk.p) (ms.map Mg.v) i).n : Nat) : Int))), (10, .slice (al) ((ms.map Mg.c).length) (lc)), (11, .int .i64 ((((ms.map Mg.c).length : Nat) : Int))), (12, .int .i64 (((i : Nat) : Int)))] ∧ Keeps (wS b pm cm ts) w w' ∧ (Blk w' b [.int .i64 (nodes), .map (some pm), .map (some cm), .int .i64 ((snI nodes id (ts.map Pk.p) (ms.map Mg.v) i).id), .int .i64 (now)] 64) ∧ (MapAt w' cm (cents cs)) ∧ (MapAt w' pm (pents us)) ∧ (MgsAt w' us) ∧ (¬ one pm b) ∧ (∀ q_, one pm q_ → ¬ one cm q_) ∧ (∀ q_, one pm q_ → ¬ mgsS us q_) ∧ (∀ q_, one pm q_ → q_ < w.heap.size → (wS b pm cm ts) q_) ∧ (¬ mgsS us b) ∧ (∀ q_, mgsS us q_ → ¬ one cm q_) ∧ (∀ q_, mgsS us q_ → q_ < w.heap.size → (wS b pm cm ts) q_) ∧ (i ≤ ms.length) ∧ (us.map Pk.p = (snI nodes id (ts.map Pk.p) (ms.map Mg.v) i).pv) ∧ (MovedS w (mgsS ts) (mgsS us)) ∧ (WOk nodes (snI nodes id (ts.map Pk.p) (ms.map Mg.v) i).id now (us.map Pk.p))) (fun i => ms.length - i) 0 ?_ ?_
  · rw [show (snI nodes id (ts.map Pk.p) (ms.map Mg.v) 0).id = id from rfl, show (snI nodes id (ts.map Pk.p) (ms.map Mg.v) 0).n = 0 from rfl]
    refine ⟨ts, ⟨rfl, rfl, rfl, rfl, rfl, trivial⟩, (Keeps.refl _ w), hB, hC, hP, hM, hn1, (fun q_ h1 h2 => (cp_of hn3) q_ h2 h1), (fun q_ h1 h2 => (mp_of hsp) q_ h2 h1), (fun q_ h_ _ => Or.inr (Or.inl h_)), hsb, (mp_of hsc), (fun q_ h_ _ => Or.inr (Or.inr (Or.inr h_))), ?_, ?_, ?_, ?_⟩
    · omega
    · rfl
    · exact fun q h => .inl h
    · exact hok
  clear hB hP hC hM
  rintro i ρ_12 w_1 ⟨us, hH_2, K0, hB, hC, hO_3, hO_4, pr_5, pr_6, pr_7, pr_8, pr_9, pr_10, pr_11, hi, hup, hmd, hok⟩ ih1
  obtain ⟨ρ₀, rfl⟩ := hH_2.ex
  clear hH_2
  refine Run.seq ?_
  refine Run.region ?_
  refine RL.val (x_ltI rfl rfl) ?_
  refine RL.nil ?_
  refine Run.seq ?_
  refine Run.cond rfl (fun hc13 => ?_) (fun hc13 => ?_)
  · try simp only [br] at hc13
    refine Run.skip ?_
    refine Run.seq ?_
    refine Run.block ?_
    refine Run.seq ?_
    obtain ⟨x0, hx0⟩ : ∃ x, (ms.map Mg.c)[i]? = some x := ⟨_, List.getElem?_eq_getElem (by omega)⟩
    obtain ⟨m, hm, hxe, hmv⟩ := mg_get hx0
    subst hxe
    refine Run.region ?_
    obtain ⟨b_13, o_14, x_17, hx_18, ha_15, hc_16⟩ := hl.el (i := i) (by first | omega | (simp only [List.length_set]; omega))
    have hc_16_lt := hc_16.lt
    replace hc_16 := hc_16.keep K0 (hld _ ha_15 (ne_get hx_18))
    obtain rfl : (mkC m.v m.s) = x_17 := Option.some.inj (hx0.symm.trans hx_18)
    refine RL.val (x_idxN Tryz.underlying31 ty57 rfl rfl ha_15 (by first | omega | (simp only [List.length_set]; omega))) ?_
    refine RL.val (x_ldV (v := .agg #[.int .i64 (((mkC m.v m.s)).kind), .int .i64 (((mkC m.v m.s)).frm), .int .i64 (((mkC m.v m.s)).to), .int .i64 (((mkC m.v m.s)).req), .string (((mkC m.v m.s)).key), .slice (m.s.ea) (m.v.ent.length) (m.s.ec), .slice (m.s.ma) (m.v.mrk.length) (m.s.mc), .slice (m.s.ca) (m.v.cl.length) (m.s.cc), .int .i64 (((mkC m.v m.s)).owner), .int .i64 (((mkC m.v m.s)).part), .int .i64 (((mkC m.v m.s)).n), .int .i64 ((((mkC m.v m.s)).ring).parts), .int .i64 ((((mkC m.v m.s)).ring).copies), .int .i64 ((((mkC m.v m.s)).ring).spots), .slice (m.s.ba) (m.v.mem.length) (m.s.bc), .slice (m.s.pa) (m.v.pe.length) (m.s.pc), .slice (m.s.sa) (m.v.su.length) (m.s.sc)]) (y := (mkC m.v m.s)) ty57 rfl hc_16 rfl) ?_
    refine RL.st rfl <| St1.alloc ty57 ?_
    intro b_19 w_20 hl_23 hb_22 K_21
    replace hb_22 : Blk w_20 b_19 [.int .i64 (0), .int .i64 (0), .int .i64 (0), .int .i64 (0), .string (⟨#[]⟩), .slice (none) (0) (0), .slice (none) (0) (0), .slice (none) (0) (0), .int .i64 (0), .int .i64 (0), .int .i64 (0), .int .i64 (0), .int .i64 (0), .int .i64 (0), .slice (none) (0) (0), .slice (none) (0) (0), .slice (none) (0) (0)] 57 := hb_22
    have ne_24 : b < b_19 := Nat.lt_of_lt_of_le hB.lt hl_23
    have ne_25 : b_13 < b_19 := Nat.lt_of_lt_of_le hc_16.lt hl_23
    have pr_26 : ¬ one cm b_19 := fun h => absurd (hC.own_lt _ h) (by omega)
    have pr_27 : ¬ one pm b_19 := fun h => absurd (hO_3.own_lt _ h) (by omega)
    have pr_28 : ¬ mgsS us b_19 := fun h => absurd (hO_4.own_lt _ h) (by omega)
    have : w.heap.size ≤ b_19 := Nat.le_trans K0.size hl_23
    clear hl_23
    replace hB := hB.ext K_21
    replace hC := hC.ext K_21
    replace hO_3 := hO_3.ext K_21
    replace hO_4 := hO_4.ext K_21
    replace hc_16 := hc_16.ext K_21
    replace K0 := K0.ext K_21
    refine RL.st rfl <| St1.store (v := .agg #[.int .i64 (((mkC m.v m.s)).kind), .int .i64 (((mkC m.v m.s)).frm), .int .i64 (((mkC m.v m.s)).to), .int .i64 (((mkC m.v m.s)).req), .string (((mkC m.v m.s)).key), .slice (m.s.ea) (m.v.ent.length) (m.s.ec), .slice (m.s.ma) (m.v.mrk.length) (m.s.mc), .slice (m.s.ca) (m.v.cl.length) (m.s.cc), .int .i64 (((mkC m.v m.s)).owner), .int .i64 (((mkC m.v m.s)).part), .int .i64 (((mkC m.v m.s)).n), .int .i64 ((((mkC m.v m.s)).ring).parts), .int .i64 ((((mkC m.v m.s)).ring).copies), .int .i64 ((((mkC m.v m.s)).ring).spots), .slice (m.s.ba) (m.v.mem.length) (m.s.bc), .slice (m.s.pa) (m.v.pe.length) (m.s.pc), .slice (m.s.sa) (m.v.su.length) (m.s.sc)]) ty57 rfl rfl rfl (by simp [Value.cells, Value.oneCell']) hb_22 (by simp) ?_
    intro w_29 hb_22_ K_30
    have hb_22' : Blk w_29 b_19 [.int .i64 (((mkC m.v m.s)).kind), .int .i64 (((mkC m.v m.s)).frm), .int .i64 (((mkC m.v m.s)).to), .int .i64 (((mkC m.v m.s)).req), .string (((mkC m.v m.s)).key), .slice (m.s.ea) (m.v.ent.length) (m.s.ec), .slice (m.s.ma) (m.v.mrk.length) (m.s.mc), .slice (m.s.ca) (m.v.cl.length) (m.s.cc), .int .i64 (((mkC m.v m.s)).owner), .int .i64 (((mkC m.v m.s)).part), .int .i64 (((mkC m.v m.s)).n), .int .i64 ((((mkC m.v m.s)).ring).parts), .int .i64 ((((mkC m.v m.s)).ring).copies), .int .i64 ((((mkC m.v m.s)).ring).spots), .slice (m.s.ba) (m.v.mem.length) (m.s.bc), .slice (m.s.pa) (m.v.pe.length) (m.s.pc), .slice (m.s.sa) (m.v.su.length) (m.s.sc)] 57 := hb_22_
    clear hb_22_
    replace hB := hB.keep K_30 (by simp only [one]; omega)
    replace hC := hC.keepO K_30 (fun q_ hq_ eq_ => pr_26 (by simp only [one] at eq_; rw [← eq_]; exact hq_))
    replace hO_3 := hO_3.keepO K_30 (fun q_ hq_ eq_ => pr_27 (by simp only [one] at eq_; rw [← eq_]; exact hq_))
    replace hO_4 := hO_4.keepO K_30 (fun q_ hq_ eq_ => pr_28 (by simp only [one] at eq_; rw [← eq_]; exact hq_))
    replace hc_16 := hc_16.keep K_30 (by simp only [one]; omega)
    replace K0 := K0.trans K_30 (fun x hlt hx => absurd hlt (by simp only [one] at hx; omega))
    replace hb_22 := hb_22'
    clear hb_22'
    refine RL.nil ?_
    refine Run.seq ?_
    refine Run.region ?_
    refine RL.val (x_moveP rfl) ?_
    refine RL.val (x_fld (o' := 1) Tryz.underlying57 rfl ty3 rfl rfl rfl) ?_
    refine RL.val (x_ld (v := .int .i64 (((mkC m.v m.s)).frm)) ty3 rfl rfl (hb_22.cl.field (i := 1) rfl)) ?_
    refine RL.val (x_fld (o' := 2) Tryz.underlying57 rfl ty3 rfl rfl rfl) ?_
    refine RL.val (x_ld (v := .int .i64 (((mkC m.v m.s)).to)) ty3 rfl rfl (hb_22.cl.field (i := 2) rfl)) ?_
    refine RL.st rfl <| St1.call (vals := [.pointer (some ⟨b, 0, none⟩), .int .i64 (((mkC m.v m.s)).frm), .int .i64 (((mkC m.v m.s)).to)]) en40 rfl (between_ b pm cm nodes ((snI nodes id (ts.map Pk.p) (ms.map Mg.v) i).id) now us cs (((mkC m.v m.s)).frm) (((mkC m.v m.s)).to) _ (⟨hB, hO_3, hC, hO_4, hn1, hn2, hn3, pr_9, (fun h_ => (fun q_ h1 h2 => pr_7 q_ h2 h1) _ h_ rfl), (fun h_ => pr_10 _ h_ rfl), hok⟩ : WldO _ b pm cm nodes ((snI nodes id (ts.map Pk.p) (ms.map Mg.v) i).id) now us cs)) ?_
    rintro _ w_31 (⟨htw_32, rfl, K_33⟩ | ⟨htw_32, rfl, K_33⟩)
    · replace hB := hB.ext K_33
      replace hC := hC.ext K_33
      replace hO_3 := hO_3.ext K_33
      replace hO_4 := hO_4.ext K_33
      replace hb_22 := hb_22.ext K_33
      replace K0 := K0.ext K_33
      refine RL.val (x_moveT rfl) ?_
      refine RL.val (x_extract rfl rfl) ?_
      refine RL.val (x_extract rfl rfl) ?_
      refine RL.st rfl <| St1.alloc ty92 ?_
      intro b_34 w_35 hl_38 hb_37 K_36
      replace hb_37 : Blk w_35 b_34 [.int .i64 (0), .int .i64 (0)] 92 := hb_37
      have ne_39 : b < b_34 := Nat.lt_of_lt_of_le hB.lt hl_38
      have ne_40 : b_19 < b_34 := Nat.lt_of_lt_of_le hb_22.lt hl_38
      have pr_41 : ¬ one cm b_34 := fun h => absurd (hC.own_lt _ h) (by omega)
      have pr_42 : ¬ one pm b_34 := fun h => absurd (hO_3.own_lt _ h) (by omega)
      have pr_43 : ¬ mgsS us b_34 := fun h => absurd (hO_4.own_lt _ h) (by omega)
      have : w.heap.size ≤ b_34 := Nat.le_trans K0.size hl_38
      clear hl_38
      replace hB := hB.ext K_36
      replace hC := hC.ext K_36
      replace hO_3 := hO_3.ext K_36
      replace hO_4 := hO_4.ext K_36
      replace hb_22 := hb_22.ext K_36
      replace K0 := K0.ext K_36
      refine RL.st rfl <| St1.store (v := .agg #[.int .i64 (0), .int .i64 (0)]) ty92 rfl rfl rfl (by simp [Value.cells, Value.oneCell']) hb_37 (by simp) ?_
      intro w_44 hb_37_ K_45
      have hb_37' : Blk w_44 b_34 [.int .i64 (0), .int .i64 (0)] 92 := hb_37_
      clear hb_37_
      replace hB := hB.keep K_45 (by simp only [one]; omega)
      replace hC := hC.keepO K_45 (fun q_ hq_ eq_ => pr_41 (by simp only [one] at eq_; rw [← eq_]; exact hq_))
      replace hO_3 := hO_3.keepO K_45 (fun q_ hq_ eq_ => pr_42 (by simp only [one] at eq_; rw [← eq_]; exact hq_))
      replace hO_4 := hO_4.keepO K_45 (fun q_ hq_ eq_ => pr_43 (by simp only [one] at eq_; rw [← eq_]; exact hq_))
      replace hb_22 := hb_22.keep K_45 (by simp only [one]; omega)
      replace K0 := K0.trans K_45 (fun x hlt hx => absurd hlt (by simp only [one] at hx; omega))
      replace hb_37 := hb_37'
      clear hb_37'
      refine RL.val (x_assign (v := .iface 24 (.int .i64 (1))) rfl) ?_
      refine RL.nil ?_
      refine Run.seq ?_
      have hpl2 := pents_len us
      have hpp : us.length = (snI nodes id (ts.map Pk.p) (ms.map Mg.v) i).pv.length := by rw [← hup, List.length_map]
      obtain ⟨hb1, hb2, hb3, hb4⟩ := sn_b (nodes := nodes) (id := id) (vs := ms.map Mg.v) (pv := ts.map Pk.p) (by rw [p_len]; exact hl5) i (by omega)
      have hsz := K0.size
      refine Run.region ?_
      refine RL.val (x_move (v := .iface 24 (.int .i64 (1))) rfl) ?_
      refine RL.val (x_eqIN (by kernel_rfl) rfl rfl) ?_
      refine RL.val (x_moveB rfl) ?_
      refine RL.guardF (wantedT0 rfl rfl rfl rfl) ?_
      refine RL.guardF (wantedT0 rfl rfl rfl rfl) ?_
      refine RL.guardF (wantedT0 rfl rfl rfl rfl) ?_
      refine RL.guardF (wantedT0 rfl rfl rfl rfl) ?_
      refine RL.guardF (wantedT0 rfl rfl rfl rfl) ?_
      refine RL.guardF (wantedT0 rfl rfl rfl rfl) ?_
      refine RL.val (x_and (b := false) (e := false) rfl rfl rfl) ?_
      refine RL.nil ?_
      refine Run.condF rfl ?_
      refine Run.skip ?_
      refine Run.inBlock ?_
      refine Run.region ?_
      refine RL.val (litI (c := ((i + 1 : Nat) : Int)) (x_add rfl rfl (by omega) (by omega)) rfl) ?_
      refine RL.val (x_moveI rfl) ?_
      refine RL.nil ?_
      have e := sn_no (nodes := nodes) (id := id) (pv := ts.map Pk.p) hmv (.inl htw_32)
      refine ih1 (i + 1) _ _ ?_ (by omega)
      rw [e]
      refine ⟨us, ⟨rfl, rfl, rfl, rfl, rfl, trivial⟩, K0, hB, hC, hO_3, hO_4, pr_5, pr_6, pr_7, pr_8, pr_9, pr_10, pr_11, ?_, ?_, ?_, ?_⟩
      · omega
      · exact hup
      · exact hmd
      · exact hok
    · replace hB := hB.ext K_33
      replace hC := hC.ext K_33
      replace hO_3 := hO_3.ext K_33
      replace hO_4 := hO_4.ext K_33
      replace hb_22 := hb_22.ext K_33
      replace K0 := K0.ext K_33
      refine RL.val (x_moveT rfl) ?_
      refine RL.val (x_extract rfl rfl) ?_
      refine RL.val (x_extract rfl rfl) ?_
      refine RL.st rfl <| St1.alloc ty92 ?_
      intro b_46 w_47 hl_50 hb_49 K_48
      replace hb_49 : Blk w_47 b_46 [.int .i64 (0), .int .i64 (0)] 92 := hb_49
      have ne_51 : b < b_46 := Nat.lt_of_lt_of_le hB.lt hl_50
      have ne_52 : b_19 < b_46 := Nat.lt_of_lt_of_le hb_22.lt hl_50
      have pr_53 : ¬ one cm b_46 := fun h => absurd (hC.own_lt _ h) (by omega)
      have pr_54 : ¬ one pm b_46 := fun h => absurd (hO_3.own_lt _ h) (by omega)
      have pr_55 : ¬ mgsS us b_46 := fun h => absurd (hO_4.own_lt _ h) (by omega)
      have : w.heap.size ≤ b_46 := Nat.le_trans K0.size hl_50
      clear hl_50
      replace hB := hB.ext K_48
      replace hC := hC.ext K_48
      replace hO_3 := hO_3.ext K_48
      replace hO_4 := hO_4.ext K_48
      replace hb_22 := hb_22.ext K_48
      replace K0 := K0.ext K_48
      refine RL.st rfl <| St1.store (v := .agg #[.int .i64 (min (((mkC m.v m.s)).frm) (((mkC m.v m.s)).to)), .int .i64 (max (((mkC m.v m.s)).frm) (((mkC m.v m.s)).to))]) ty92 rfl rfl rfl (by simp [Value.cells, Value.oneCell']) hb_49 (by simp) ?_
      intro w_56 hb_49_ K_57
      have hb_49' : Blk w_56 b_46 [.int .i64 (min (((mkC m.v m.s)).frm) (((mkC m.v m.s)).to)), .int .i64 (max (((mkC m.v m.s)).frm) (((mkC m.v m.s)).to))] 92 := hb_49_
      clear hb_49_
      replace hB := hB.keep K_57 (by simp only [one]; omega)
      replace hC := hC.keepO K_57 (fun q_ hq_ eq_ => pr_53 (by simp only [one] at eq_; rw [← eq_]; exact hq_))
      replace hO_3 := hO_3.keepO K_57 (fun q_ hq_ eq_ => pr_54 (by simp only [one] at eq_; rw [← eq_]; exact hq_))
      replace hO_4 := hO_4.keepO K_57 (fun q_ hq_ eq_ => pr_55 (by simp only [one] at eq_; rw [← eq_]; exact hq_))
      replace hb_22 := hb_22.keep K_57 (by simp only [one]; omega)
      replace K0 := K0.trans K_57 (fun x hlt hx => absurd hlt (by simp only [one] at hx; omega))
      replace hb_49 := hb_49'
      clear hb_49'
      refine RL.val (x_assign (v := .nilIface) rfl) ?_
      refine RL.nil ?_
      refine Run.seq ?_
      have hpl2 := pents_len us
      have hpp : us.length = (snI nodes id (ts.map Pk.p) (ms.map Mg.v) i).pv.length := by rw [← hup, List.length_map]
      obtain ⟨hb1, hb2, hb3, hb4⟩ := sn_b (nodes := nodes) (id := id) (vs := ms.map Mg.v) (pv := ts.map Pk.p) (by rw [p_len]; exact hl5) i (by omega)
      have hsz := K0.size
      refine Run.region ?_
      refine RL.val (x_move (v := .nilIface) rfl) ?_
      refine RL.val (x_eqNN (by kernel_rfl) rfl rfl) ?_
      refine RL.val (x_moveB rfl) ?_
      refine RL.gst (wantedT1 rfl rfl rfl rfl) <| St1.val (x_moveP rfl) ?_
      refine RL.gst (wantedT1 rfl rfl rfl rfl) <| St1.val (x_nilCheck rfl) ?_
      refine RL.gst (wantedT1 rfl rfl rfl rfl) <| St1.val (x_fld (o' := 1) Tryz.underlying64 rfl ty61 rfl rfl rfl) ?_
      refine RL.gst (wantedT1 rfl rfl rfl rfl) <| St1.val (x_ld (v := .map (some pm)) ty61 rfl rfl (hB.cl.field (i := 1) rfl)) ?_
      refine RL.gst (wantedT1 rfl rfl rfl rfl) <| St1.val (x_lenMap Tryz.underlying61 rfl hO_3) ?_
      refine RL.gst (wantedT1 rfl rfl rfl rfl) <| St1.val (x_ltI rfl rfl) ?_
      refine RL.val (x_andT rfl rfl rfl) ?_
      refine RL.nil ?_
      refine Run.cond rfl (fun hc34 => ?_) (fun hc34 => ?_)
      · try simp only [br] at hc34
        refine Run.seq ?_
        refine Run.region ?_
        refine RL.val (x_moveP rfl) ?_
        refine RL.val (x_lds (cs := #[.int .i64 (((mkC m.v m.s)).kind), .int .i64 (((mkC m.v m.s)).frm), .int .i64 (((mkC m.v m.s)).to), .int .i64 (((mkC m.v m.s)).req), .string (((mkC m.v m.s)).key), .slice (m.s.ea) (m.v.ent.length) (m.s.ec), .slice (m.s.ma) (m.v.mrk.length) (m.s.mc), .slice (m.s.ca) (m.v.cl.length) (m.s.cc), .int .i64 (((mkC m.v m.s)).owner), .int .i64 (((mkC m.v m.s)).part), .int .i64 (((mkC m.v m.s)).n), .int .i64 ((((mkC m.v m.s)).ring).parts), .int .i64 ((((mkC m.v m.s)).ring).copies), .int .i64 ((((mkC m.v m.s)).ring).spots), .slice (m.s.ba) (m.v.mem.length) (m.s.bc), .slice (m.s.pa) (m.v.pe.length) (m.s.pc), .slice (m.s.sa) (m.v.su.length) (m.s.sc)]) ty57 rfl rfl (hb_22.cl.drop 0 17)) ?_
        refine RL.st rfl <| St1.call (vals := [.pointer (some ⟨b, 0, none⟩), .agg #[.int .i64 (((mkC m.v m.s)).kind), .int .i64 (((mkC m.v m.s)).frm), .int .i64 (((mkC m.v m.s)).to), .int .i64 (((mkC m.v m.s)).req), .string (((mkC m.v m.s)).key), .slice (m.s.ea) (m.v.ent.length) (m.s.ec), .slice (m.s.ma) (m.v.mrk.length) (m.s.mc), .slice (m.s.ca) (m.v.cl.length) (m.s.cc), .int .i64 (((mkC m.v m.s)).owner), .int .i64 (((mkC m.v m.s)).part), .int .i64 (((mkC m.v m.s)).n), .int .i64 ((((mkC m.v m.s)).ring).parts), .int .i64 ((((mkC m.v m.s)).ring).copies), .int .i64 ((((mkC m.v m.s)).ring).spots), .slice (m.s.ba) (m.v.mem.length) (m.s.bc), .slice (m.s.pa) (m.v.pe.length) (m.s.pc), .slice (m.s.sa) (m.v.su.length) (m.s.sc)]]) en41 rfl (put_ b pm cm nodes ((snI nodes id (ts.map Pk.p) (ms.map Mg.v) i).id) now us cs m.v m.s _ (⟨hB, hO_3, hC, hO_4, hn1, hn2, hn3, pr_9, (fun h_ => (fun q_ h1 h2 => pr_7 q_ h2 h1) _ h_ rfl), (fun h_ => pr_10 _ h_ rfl), hok⟩ : WldO _ b pm cm nodes ((snI nodes id (ts.map Pk.p) (ms.map Mg.v) i).id) now us cs) ((hms m (mem_of_at hm)).1.keepO K0 (hms m (mem_of_at hm)).2.2) (hms m (mem_of_at hm)).2.1 (by omega) (by omega) (fun h_ => (hms m (mem_of_at hm)).2.2 _ h_ (.inl rfl)) (fun h_ => (hms m (mem_of_at hm)).2.2 _ h_ (.inr (.inl rfl))) (fun h_ => (hms m (mem_of_at hm)).2.2 _ h_ (.inr (.inr (.inl rfl))))) ?_
        rintro _ w_59 ⟨s_58, rfl, hD_60, hg_61, K_62⟩
        have hm_63 : MovedS w_56 (mgsS us) (mgsS (us ++ [(⟨(snI nodes id (ts.map Pk.p) (ms.map Mg.v) i).id + 1, m.v, s_58⟩ : Pk)])) := fun q h => (mgs_snoc.1 h).imp (fun h_ => h_) (hg_61 q)
        have pr_65 : ¬ mgsS (us ++ [(⟨(snI nodes id (ts.map Pk.p) (ms.map Mg.v) i).id + 1, m.v, s_58⟩ : Pk)]) b := hm_63.not pr_9 hB.lt
        have pr_66 : ∀ q_, mgsS (us ++ [(⟨(snI nodes id (ts.map Pk.p) (ms.map Mg.v) i).id + 1, m.v, s_58⟩ : Pk)]) q_ → ¬ one cm q_ := hm_63.apart pr_10 hC.own_lt
        have pr_67 : ∀ q_, mgsS (us ++ [(⟨(snI nodes id (ts.map Pk.p) (ms.map Mg.v) i).id + 1, m.v, s_58⟩ : Pk)]) q_ → ¬ one pm q_ := hm_63.apart (fun q_ h1 h2 => pr_7 q_ h2 h1) hO_3.own_lt
        have pr_68 : ¬ mgsS (us ++ [(⟨(snI nodes id (ts.map Pk.p) (ms.map Mg.v) i).id + 1, m.v, s_58⟩ : Pk)]) b_19 := hm_63.not pr_28 hb_22.lt
        have pr_69 : ¬ mgsS (us ++ [(⟨(snI nodes id (ts.map Pk.p) (ms.map Mg.v) i).id + 1, m.v, s_58⟩ : Pk)]) b_46 := hm_63.not pr_55 hb_49.lt
        have pg_70 : ∀ q_, mgsS (us ++ [(⟨(snI nodes id (ts.map Pk.p) (ms.map Mg.v) i).id + 1, m.v, s_58⟩ : Pk)]) q_ → q_ < w.heap.size → (wS b pm cm ts) q_ := hm_63.inS pr_11 K0.size
        have pr_71 : ∀ q_, wF b pm cm q_ → ¬ mgsS us q_ := fun q_ x_ z_ => ((fun q_ h_ => show q_ = b ∨ (q_ = pm ∨ q_ = cm) from h_) _ x_).elim (fun e_ => pr_9 (show mgsS us b from e_ ▸ z_)) (fun y_ => y_.elim (fun y_ => pr_7 q_ y_ z_) (fun y_ => (fun y_ => (fun q_ h1 h2 => pr_10 q_ h2 h1) q_ y_ z_) y_))
        have pr_72 : ¬ wF b pm cm b_19 := fun x_ => ((fun q_ h_ => show q_ = b ∨ (q_ = pm ∨ q_ = cm) from h_) _ x_).elim (fun e_ => absurd e_ (by omega)) (fun y_ => y_.elim pr_27 (fun y_ => pr_26 y_))
        have pr_73 : ¬ wF b pm cm b_46 := fun x_ => ((fun q_ h_ => show q_ = b ∨ (q_ = pm ∨ q_ = cm) from h_) _ x_).elim (fun e_ => absurd e_ (by omega)) (fun y_ => y_.elim pr_54 (fun y_ => pr_53 y_))
        have pg_74 : ∀ q_, wF b pm cm q_ → q_ < w.heap.size → (wS b pm cm ts) q_ := fun q_ x_ hl_ => ((fun q_ h_ => show q_ = b ∨ (q_ = pm ∨ q_ = cm) from h_) _ x_).elim (fun e_ => e_ ▸ (Or.inl rfl)) (fun y_ => y_.elim (fun y_ => pr_8 q_ y_ hl_) (fun y_ => (fun y_ => (fun q_ h_ _ => Or.inr (Or.inr (Or.inl h_))) q_ y_ hl_) y_))
        replace hb_22 := hb_22.keep K_62 pr_72
        replace hb_49 := hb_49.keep K_62 pr_73
        replace K0 := K0.trans K_62 (fun x hlt hx => pg_74 x hx hlt)
        replace hB := hD_60.blk
        replace hO_3 := hD_60.pk
        replace hC := hD_60.cu
        replace hok := hD_60.ok
        have hM_64 := hD_60.ms
        have ne_75 : b ≠ b_19 := fun e_ => pr_72 (by rw [← e_]; exact wf_b)
        have ne_76 : b ≠ b_46 := fun e_ => pr_73 (by rw [← e_]; exact wf_b)
        have pr_77 : ¬ mgsS (us ++ [(⟨(snI nodes id (ts.map Pk.p) (ms.map Mg.v) i).id + 1, m.v, s_58⟩ : Pk)]) b := fun h_ => (fun q_ h1 h2 => (ms_wF pr_65 pr_67 pr_66) q_ h2 h1) _ wf_b h_
        have if_78 : b < w.heap.size → (wS b pm cm ts) b := fun hl_ => pg_74 _ wf_b hl_
        have pr_79 : ¬ one pm b_19 := fun h_ => pr_72 (wf_p _ h_)
        have pr_80 : ¬ one pm b_46 := fun h_ => pr_73 (wf_p _ h_)
        have pr_81 : ∀ q_, one pm q_ → ¬ mgsS (us ++ [(⟨(snI nodes id (ts.map Pk.p) (ms.map Mg.v) i).id + 1, m.v, s_58⟩ : Pk)]) q_ := fun q_ h_ => (fun q_ h1 h2 => (ms_wF pr_65 pr_67 pr_66) q_ h2 h1) q_ (wf_p q_ h_)
        have pr_82 : ¬ one cm b_19 := fun h_ => pr_72 (wf_c _ h_)
        have pr_83 : ¬ one cm b_46 := fun h_ => pr_73 (wf_c _ h_)
        have pr_84 : ∀ q_, one cm q_ → ¬ mgsS (us ++ [(⟨(snI nodes id (ts.map Pk.p) (ms.map Mg.v) i).id + 1, m.v, s_58⟩ : Pk)]) q_ := fun q_ h_ => (fun q_ h1 h2 => (ms_wF pr_65 pr_67 pr_66) q_ h2 h1) q_ (wf_c q_ h_)
        refine RL.nil ?_
        refine Run.region ?_
        refine RL.val (x_moveI rfl) ?_
        refine RL.val (litI (c := ((((snI nodes id (ts.map Pk.p) (ms.map Mg.v) i).n) + 1 : Nat) : Int)) (x_add rfl rfl (by omega) (by omega)) rfl) ?_
        refine RL.val (x_assignI rfl) ?_
        refine RL.nil ?_
        refine Run.inBlock ?_
        refine Run.region ?_
        refine RL.val (litI (c := ((i + 1 : Nat) : Int)) (x_add rfl rfl (by omega) (by omega)) rfl) ?_
        refine RL.val (x_moveI rfl) ?_
        refine RL.nil ?_
        have e := sn_yes (nodes := nodes) (id := id) (pv := ts.map Pk.p) hmv htw_32 (by omega)
        have e1 : (snI nodes id (ts.map Pk.p) (ms.map Mg.v) (i + 1)).id = (snI nodes id (ts.map Pk.p) (ms.map Mg.v) i).id + 1 := by rw [e]
        have e2 : (snI nodes id (ts.map Pk.p) (ms.map Mg.v) (i + 1)).n = (snI nodes id (ts.map Pk.p) (ms.map Mg.v) i).n + 1 := by rw [e]
        refine ih1 (i + 1) _ _ ?_ (by omega)
        rw [e1, e2]
        refine ⟨(us ++ [(⟨(snI nodes id (ts.map Pk.p) (ms.map Mg.v) i).id + 1, m.v, s_58⟩ : Pk)]), ⟨rfl, rfl, rfl, rfl, rfl, trivial⟩, K0, hB, hC, hO_3, hM_64, hn1, pr_6, pr_81, (fun q_ h_ hl_ => pg_74 q_ (wf_p q_ h_) hl_), pr_77, (fun q_ h1 h2 => pr_84 q_ h2 h1), pg_70, ?_, ?_, ?_, ?_⟩
        · omega
        · rw [e, List.map_append, hup]; rfl
        · exact fun q h => (mgs_snoc.1 h).elim (hmd q) (fun h_ => .inr (Nat.le_trans hsz (hg_61 q h_)))
        · exact hok
      · try simp only [br] at hc34
        refine Run.skip ?_
        refine Run.inBlock ?_
        refine Run.region ?_
        refine RL.val (litI (c := ((i + 1 : Nat) : Int)) (x_add rfl rfl (by omega) (by omega)) rfl) ?_
        refine RL.val (x_moveI rfl) ?_
        refine RL.nil ?_
        have e := sn_no (nodes := nodes) (id := id) (pv := ts.map Pk.p) hmv (.inr (by omega))
        refine ih1 (i + 1) _ _ ?_ (by omega)
        rw [e]
        refine ⟨us, ⟨rfl, rfl, rfl, rfl, rfl, trivial⟩, K0, hB, hC, hO_3, hO_4, pr_5, pr_6, pr_7, pr_8, pr_9, pr_10, pr_11, ?_, ?_, ?_, ?_⟩
        · omega
        · exact hup
        · exact hmd
        · exact hok
  · try simp only [br] at hc13
    refine Run.exit rfl ?_
    refine Run.seq ?_
    obtain ⟨hb1, hb2, hb3, hb4⟩ := sn_b (nodes := nodes) (id := id) (vs := ms.map Mg.v) (pv := ts.map Pk.p) (by rw [p_len]; exact hl5) i (by omega)
    refine Run.region ?_
    refine RL.val (x_moveI rfl) ?_
    refine RL.val (x_assignI rfl) ?_
    refine RL.nil ?_
    refine Run.ret1 (v := .int .i64 ((((snI nodes id (ts.map Pk.p) (ms.map Mg.v) i).n : Nat) : Int))) Tryz.func13 rfl rfl ?_
    have hil : i = ms.length := by omega
    subst hil
    exact ⟨_, rfl, us, rfl, ⟨hB, hO_3, hC, hO_4, hn1, hn2, hn3, pr_9, (fun h_ => (fun q_ h1 h2 => pr_7 q_ h2 h1) _ h_ rfl), (fun h_ => pr_10 _ h_ rfl), hok⟩, hup, hmd, K0⟩

end Go.Proofs.YtdlaoncjiolckaaGreat
