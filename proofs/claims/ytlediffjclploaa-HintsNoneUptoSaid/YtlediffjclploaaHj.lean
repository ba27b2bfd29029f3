/-
  HintsNone.
-/
import Derived.Test.YtlediffjclploaaRows
import Derived.Test.YtlediffjclploaaHc
import Derived.Test.YtlediffjclploaaLoop
namespace Go.Proofs.Ytlediffjclploaa
attribute [local irreducible] St1 RL RA RT RT1 Run

theorem ty34 : Ty Try.prog 34 1 8 (.pointer none) false := ty_of (by kernel_rfl) (by kernel_rfl)
theorem en17 : Enters Try.prog 17 := enters_of Try.func17 rfl (by kernel_rfl)
theorem en22 : Enters Try.prog 22 := enters_of Try.func22 rfl (by kernel_rfl)
theorem en24 : Enters Try.prog 24 := enters_of Try.func24 rfl (by kernel_rfl)

set_option maxHeartbeats 4000000 in
theorem look_nil (h : Hint) (w : World) :
    Calls Try.prog 44 #[.pointer none, .agg #[.int .i64 ((h).owner), .string ((h).key)]] w (Ret (fun v w' => v = .tuple #[.int .i64 (-1), .int .i64 (8)] ∧ Ext w w')) := by
  refine calls_run (n := 28) Try.func44 rfl rfl rfl ?_
  refine Run.seq ?_
  refine Run.region ?_
  refine RL.st rfl <| St1.box (v := .agg #[.int .i64 ((h).owner), .string ((h).key)]) rfl ?_
  intro b_1 w_2 hl_5 hb_4 K_3
  replace hb_4 : Blk w_2 b_1 [.int .i64 ((h).owner), .string ((h).key)] 42 := hb_4
  have : w.heap.size ≤ b_1 := hl_5
  clear hl_5
  have K0 := (K_3 : Ext w _)
  refine RL.val (x_assignI rfl) ?_
  refine RL.val (x_assignI rfl) ?_
  refine RL.nil ?_
  refine Run.scope ?_
  refine Run.seq ?_
  refine Run.region ?_
  refine RL.val (x_assignI rfl) ?_
  refine RL.val (x_assignI rfl) ?_
  refine RL.nil ?_
  refine Run.seq ?_
  refine Run.seq ?_
  refine Run.region ?_
  refine RL.val (x_moveP rfl) ?_
  refine RL.st rfl <| St1.call (vals := [.pointer none]) en42 rfl (thereNil _) ?_
  rintro _ w_6 ⟨rfl, K_7⟩
  replace hb_4 := hb_4.ext K_7
  replace K0 := K0.ext K_7
  refine RL.val (x_not rfl) ?_
  refine RL.nil ?_
  refine Run.condT rfl ?_
  refine Run.seq ?_
  refine Run.region ?_
  refine RL.val (x_assignI rfl) ?_
  refine RL.nil ?_
  refine Run.goto rfl ?_
  refine Run.seq ?_
  refine Run.skip ?_
  refine Run.seq ?_
  refine Run.region ?_
  refine RL.val (x_moveI rfl) ?_
  refine RL.val (x_moveI rfl) ?_
  refine RL.val (x_assignI rfl) ?_
  refine RL.val (x_assignI rfl) ?_
  refine RL.nil ?_
  refine Run.ret2 (v := .int .i64 (-1)) (x := .int .i64 (8)) Try.func44 rfl rfl rfl ?_
  exact ⟨_, rfl, rfl, K0⟩

set_option maxHeartbeats 4000000 in
theorem look_zero (b : Nat) (h : Hint) (w : World) (hb : Blk w b [.bool (false), .slice (none) (0) (0), .int .i64 (0), .int .i64 (0), .int .i64 (0), .int .i64 (0), .int .i64 (0), .int .i64 (0), .int .i64 (0), .int .i64 (0), .int .i64 (0)] 51) :
    Calls Try.prog 44 #[.pointer (some ⟨b, 0, none⟩), .agg #[.int .i64 ((h).owner), .string ((h).key)]] w (Ret (fun v w' => v = .tuple #[.int .i64 (-1), .int .i64 (8)] ∧ Ext w w')) := by
  refine calls_run (n := 28) Try.func44 rfl rfl rfl ?_
  refine Run.seq ?_
  refine Run.region ?_
  refine RL.st rfl <| St1.box (v := .agg #[.int .i64 ((h).owner), .string ((h).key)]) rfl ?_
  intro b_1 w_2 hl_5 hb_4 K_3
  replace hb_4 : Blk w_2 b_1 [.int .i64 ((h).owner), .string ((h).key)] 42 := hb_4
  have ne_6 : b < b_1 := Nat.lt_of_lt_of_le hb.lt hl_5
  have : w.heap.size ≤ b_1 := hl_5
  clear hl_5
  replace hb := hb.ext K_3
  have K0 := (K_3 : Ext w _)
  refine RL.val (x_assignI rfl) ?_
  refine RL.val (x_assignI rfl) ?_
  refine RL.nil ?_
  refine Run.scope ?_
  refine Run.seq ?_
  refine Run.region ?_
  refine RL.val (x_assignI rfl) ?_
  refine RL.val (x_assignI rfl) ?_
  refine RL.nil ?_
  refine Run.seq ?_
  refine Run.seq ?_
  refine Run.region ?_
  refine RL.val (x_moveP rfl) ?_
  refine RL.st rfl <| St1.call (vals := [.pointer (some ⟨b, 0, none⟩)]) en42 rfl (there _ false _ _ _ (fun _ => 0) _ _ hb) ?_
  rintro _ w_7 ⟨rfl, K_8⟩
  replace hb := hb.ext K_8
  replace hb_4 := hb_4.ext K_8
  replace K0 := K0.ext K_8
  refine RL.val (x_not rfl) ?_
  refine RL.nil ?_
  refine Run.condT rfl ?_
  refine Run.seq ?_
  refine Run.region ?_
  refine RL.val (x_assignI rfl) ?_
  refine RL.nil ?_
  refine Run.goto rfl ?_
  refine Run.seq ?_
  refine Run.skip ?_
  refine Run.seq ?_
  refine Run.region ?_
  refine RL.val (x_moveI rfl) ?_
  refine RL.val (x_moveI rfl) ?_
  refine RL.val (x_assignI rfl) ?_
  refine RL.val (x_assignI rfl) ?_
  refine RL.nil ?_
  refine Run.ret2 (v := .int .i64 (-1)) (x := .int .i64 (8)) Try.func44 rfl rfl rfl ?_
  exact ⟨_, rfl, rfl, K0⟩

set_option maxHeartbeats 4000000 in
theorem Put_nil (h : Hint) (w : World) :
    Calls Try.prog 19 #[.pointer none, .agg #[.int .i64 ((h).owner), .string ((h).key)]] w (Ret (fun v w' => v = .int .i64 (8) ∧ Ext w w')) := by
  refine calls_run (n := 56) Try.func19 rfl rfl rfl ?_
  refine Run.seq ?_
  refine Run.region ?_
  refine RL.st rfl <| St1.box (v := .agg #[.int .i64 ((h).owner), .string ((h).key)]) rfl ?_
  intro b_1 w_2 hl_5 hb_4 K_3
  replace hb_4 : Blk w_2 b_1 [.int .i64 ((h).owner), .string ((h).key)] 42 := hb_4
  have : w.heap.size ≤ b_1 := hl_5
  clear hl_5
  have K0 := (K_3 : Ext w _)
  refine RL.val (x_assignI rfl) ?_
  refine RL.nil ?_
  refine Run.seq ?_
  refine Run.region ?_
  refine RL.val (x_moveP rfl) ?_
  refine RL.val (x_lds (cs := #[.int .i64 ((h).owner), .string ((h).key)]) ty42 rfl rfl (hb_4.cl.drop 0 2)) ?_
  refine RL.st rfl <| St1.call (vals := [.pointer none, .agg #[.int .i64 ((h).owner), .string ((h).key)]]) en44 rfl (look_nil h _) ?_
  rintro _ w_6 ⟨rfl, K_7⟩
  replace hb_4 := hb_4.ext K_7
  replace K0 := K0.ext K_7
  refine RL.val (x_moveT rfl) ?_
  refine RL.val (x_extract rfl rfl) ?_
  refine RL.val (x_extract rfl rfl) ?_
  refine RL.val (x_assignI rfl) ?_
  refine RL.val (x_assignI rfl) ?_
  refine RL.nil ?_
  refine Run.seq ?_
  refine Run.block ?_
  refine Run.seq ?_
  refine Run.region ?_
  refine RL.val (x_moveI rfl) ?_
  refine RL.val (litT (x_neI rfl rfl) (by decide)) ?_
  refine RL.val (x_assignB rfl) ?_
  refine RL.nil ?_
  refine Run.condT rfl ?_
  refine Run.seq ?_
  refine Run.region ?_
  refine RL.val (x_moveI rfl) ?_
  refine RL.val (x_assignI rfl) ?_
  refine RL.nil ?_
  refine Run.ret1 (v := .int .i64 (8)) Try.func19 rfl rfl ?_
  exact ⟨_, rfl, rfl, K0⟩

set_option maxHeartbeats 4000000 in
theorem Put_zero (b : Nat) (h : Hint) (w : World) (hb : Blk w b [.bool (false), .slice (none) (0) (0), .int .i64 (0), .int .i64 (0), .int .i64 (0), .int .i64 (0), .int .i64 (0), .int .i64 (0), .int .i64 (0), .int .i64 (0), .int .i64 (0)] 51) :
    Calls Try.prog 19 #[.pointer (some ⟨b, 0, none⟩), .agg #[.int .i64 ((h).owner), .string ((h).key)]] w (Ret (fun v w' => v = .int .i64 (8) ∧ Ext w w')) := by
  refine calls_run (n := 56) Try.func19 rfl rfl rfl ?_
  refine Run.seq ?_
  refine Run.region ?_
  refine RL.st rfl <| St1.box (v := .agg #[.int .i64 ((h).owner), .string ((h).key)]) rfl ?_
  intro b_1 w_2 hl_5 hb_4 K_3
  replace hb_4 : Blk w_2 b_1 [.int .i64 ((h).owner), .string ((h).key)] 42 := hb_4
  have ne_6 : b < b_1 := Nat.lt_of_lt_of_le hb.lt hl_5
  have : w.heap.size ≤ b_1 := hl_5
  clear hl_5
  replace hb := hb.ext K_3
  have K0 := (K_3 : Ext w _)
  refine RL.val (x_assignI rfl) ?_
  refine RL.nil ?_
  refine Run.seq ?_
  refine Run.region ?_
  refine RL.val (x_moveP rfl) ?_
  refine RL.val (x_lds (cs := #[.int .i64 ((h).owner), .string ((h).key)]) ty42 rfl rfl (hb_4.cl.drop 0 2)) ?_
  refine RL.st rfl <| St1.call (vals := [.pointer (some ⟨b, 0, none⟩), .agg #[.int .i64 ((h).owner), .string ((h).key)]]) en44 rfl (look_zero _ h _ hb) ?_
  rintro _ w_7 ⟨rfl, K_8⟩
  replace hb := hb.ext K_8
  replace hb_4 := hb_4.ext K_8
  replace K0 := K0.ext K_8
  refine RL.val (x_moveT rfl) ?_
  refine RL.val (x_extract rfl rfl) ?_
  refine RL.val (x_extract rfl rfl) ?_
  refine RL.val (x_assignI rfl) ?_
  refine RL.val (x_assignI rfl) ?_
  refine RL.nil ?_
  refine Run.seq ?_
  refine Run.block ?_
  refine Run.seq ?_
  refine Run.region ?_
  refine RL.val (x_moveI rfl) ?_
  refine RL.val (litT (x_neI rfl rfl) (by decide)) ?_
  refine RL.val (x_assignB rfl) ?_
  refine RL.nil ?_
  refine Run.condT rfl ?_
  refine Run.seq ?_
  refine Run.region ?_
  refine RL.val (x_moveI rfl) ?_
  refine RL.val (x_assignI rfl) ?_
  refine RL.nil ?_
  refine Run.ret1 (v := .int .i64 (8)) Try.func19 rfl rfl ?_
  exact ⟨_, rfl, rfl, K0⟩

set_option maxHeartbeats 4000000 in
theorem Drop_nil (h : Hint) (w : World) :
    Calls Try.prog 22 #[.pointer none, .agg #[.int .i64 ((h).owner), .string ((h).key)]] w (Ret (fun v w' => v = .int .i64 (8) ∧ Ext w w')) := by
  refine calls_run (n := 40) Try.func22 rfl rfl rfl ?_
  refine Run.seq ?_
  refine Run.region ?_
  refine RL.st rfl <| St1.box (v := .agg #[.int .i64 ((h).owner), .string ((h).key)]) rfl ?_
  intro b_1 w_2 hl_5 hb_4 K_3
  replace hb_4 : Blk w_2 b_1 [.int .i64 ((h).owner), .string ((h).key)] 42 := hb_4
  have : w.heap.size ≤ b_1 := hl_5
  clear hl_5
  have K0 := (K_3 : Ext w _)
  refine RL.val (x_assignI rfl) ?_
  refine RL.nil ?_
  refine Run.seq ?_
  refine Run.region ?_
  refine RL.val (x_moveP rfl) ?_
  refine RL.val (x_lds (cs := #[.int .i64 ((h).owner), .string ((h).key)]) ty42 rfl rfl (hb_4.cl.drop 0 2)) ?_
  refine RL.st rfl <| St1.call (vals := [.pointer none, .agg #[.int .i64 ((h).owner), .string ((h).key)]]) en44 rfl (look_nil h _) ?_
  rintro _ w_6 ⟨rfl, K_7⟩
  replace hb_4 := hb_4.ext K_7
  replace K0 := K0.ext K_7
  refine RL.val (x_moveT rfl) ?_
  refine RL.val (x_extract rfl rfl) ?_
  refine RL.val (x_extract rfl rfl) ?_
  refine RL.val (x_assignI rfl) ?_
  refine RL.val (x_assignI rfl) ?_
  refine RL.nil ?_
  refine Run.seq ?_
  refine Run.seq ?_
  refine Run.region ?_
  refine RL.val (x_moveI rfl) ?_
  refine RL.val (litT (x_neI rfl rfl) (by decide)) ?_
  refine RL.nil ?_
  refine Run.condT rfl ?_
  refine Run.seq ?_
  refine Run.region ?_
  refine RL.val (x_moveI rfl) ?_
  refine RL.val (x_assignI rfl) ?_
  refine RL.nil ?_
  refine Run.ret1 (v := .int .i64 (8)) Try.func22 rfl rfl ?_
  exact ⟨_, rfl, rfl, K0⟩

set_option maxHeartbeats 4000000 in
theorem Drop_zero (b : Nat) (h : Hint) (w : World) (hb : Blk w b [.bool (false), .slice (none) (0) (0), .int .i64 (0), .int .i64 (0), .int .i64 (0), .int .i64 (0), .int .i64 (0), .int .i64 (0), .int .i64 (0), .int .i64 (0), .int .i64 (0)] 51) :
    Calls Try.prog 22 #[.pointer (some ⟨b, 0, none⟩), .agg #[.int .i64 ((h).owner), .string ((h).key)]] w (Ret (fun v w' => v = .int .i64 (8) ∧ Ext w w')) := by
  refine calls_run (n := 40) Try.func22 rfl rfl rfl ?_
  refine Run.seq ?_
  refine Run.region ?_
  refine RL.st rfl <| St1.box (v := .agg #[.int .i64 ((h).owner), .string ((h).key)]) rfl ?_
  intro b_1 w_2 hl_5 hb_4 K_3
  replace hb_4 : Blk w_2 b_1 [.int .i64 ((h).owner), .string ((h).key)] 42 := hb_4
  have ne_6 : b < b_1 := Nat.lt_of_lt_of_le hb.lt hl_5
  have : w.heap.size ≤ b_1 := hl_5
  clear hl_5
  replace hb := hb.ext K_3
  have K0 := (K_3 : Ext w _)
  refine RL.val (x_assignI rfl) ?_
  refine RL.nil ?_
  refine Run.seq ?_
  refine Run.region ?_
  refine RL.val (x_moveP rfl) ?_
  refine RL.val (x_lds (cs := #[.int .i64 ((h).owner), .string ((h).key)]) ty42 rfl rfl (hb_4.cl.drop 0 2)) ?_
  refine RL.st rfl <| St1.call (vals := [.pointer (some ⟨b, 0, none⟩), .agg #[.int .i64 ((h).owner), .string ((h).key)]]) en44 rfl (look_zero _ h _ hb) ?_
  rintro _ w_7 ⟨rfl, K_8⟩
  replace hb := hb.ext K_8
  replace hb_4 := hb_4.ext K_8
  replace K0 := K0.ext K_8
  refine RL.val (x_moveT rfl) ?_
  refine RL.val (x_extract rfl rfl) ?_
  refine RL.val (x_extract rfl rfl) ?_
  refine RL.val (x_assignI rfl) ?_
  refine RL.val (x_assignI rfl) ?_
  refine RL.nil ?_
  refine Run.seq ?_
  refine Run.seq ?_
  refine Run.region ?_
  refine RL.val (x_moveI rfl) ?_
  refine RL.val (litT (x_neI rfl rfl) (by decide)) ?_
  refine RL.nil ?_
  refine Run.condT rfl ?_
  refine Run.seq ?_
  refine Run.region ?_
  refine RL.val (x_moveI rfl) ?_
  refine RL.val (x_assignI rfl) ?_
  refine RL.nil ?_
  refine Run.ret1 (v := .int .i64 (8)) Try.func22 rfl rfl ?_
  exact ⟨_, rfl, rfl, K0⟩

set_option maxHeartbeats 4000000 in
theorem Has_nil (h : Hint) (w : World) :
    Calls Try.prog 23 #[.pointer none, .agg #[.int .i64 ((h).owner), .string ((h).key)]] w (Ret (fun v w' => v = .bool (false) ∧ Ext w w')) := by
  refine calls_run (n := 13) Try.func23 rfl rfl rfl ?_
  refine Run.seq ?_
  refine Run.region ?_
  refine RL.st rfl <| St1.box (v := .agg #[.int .i64 ((h).owner), .string ((h).key)]) rfl ?_
  intro b_1 w_2 hl_5 hb_4 K_3
  replace hb_4 : Blk w_2 b_1 [.int .i64 ((h).owner), .string ((h).key)] 42 := hb_4
  have : w.heap.size ≤ b_1 := hl_5
  clear hl_5
  have K0 := (K_3 : Ext w _)
  refine RL.val (x_assignB rfl) ?_
  refine RL.nil ?_
  refine Run.seq ?_
  refine Run.region ?_
  refine RL.val (x_moveP rfl) ?_
  refine RL.st rfl <| St1.call (vals := [.pointer none]) en42 rfl (thereNil _) ?_
  rintro _ w_6 ⟨rfl, K_7⟩
  replace hb_4 := hb_4.ext K_7
  replace K0 := K0.ext K_7
  refine RL.val (x_moveB rfl) ?_
  refine RL.guardF (wantedT0 rfl rfl rfl rfl) ?_
  refine RL.guardF (wantedT0 rfl rfl rfl rfl) ?_
  refine RL.guardF (wantedT0 rfl rfl rfl rfl) ?_
  refine RL.guardF (wantedT0 rfl rfl rfl rfl) ?_
  refine RL.val (x_and (b := false) (e := false) rfl rfl rfl) ?_
  refine RL.val (x_assignB rfl) ?_
  refine RL.nil ?_
  refine Run.ret1 (v := .bool (false)) Try.func23 rfl rfl ?_
  exact ⟨_, rfl, rfl, K0⟩

set_option maxHeartbeats 4000000 in
theorem Has_zero (b : Nat) (h : Hint) (w : World) (hb : Blk w b [.bool (false), .slice (none) (0) (0), .int .i64 (0), .int .i64 (0), .int .i64 (0), .int .i64 (0), .int .i64 (0), .int .i64 (0), .int .i64 (0), .int .i64 (0), .int .i64 (0)] 51) :
    Calls Try.prog 23 #[.pointer (some ⟨b, 0, none⟩), .agg #[.int .i64 ((h).owner), .string ((h).key)]] w (Ret (fun v w' => v = .bool (false) ∧ Ext w w')) := by
  refine calls_run (n := 13) Try.func23 rfl rfl rfl ?_
  refine Run.seq ?_
  refine Run.region ?_
  refine RL.st rfl <| St1.box (v := .agg #[.int .i64 ((h).owner), .string ((h).key)]) rfl ?_
  intro b_1 w_2 hl_5 hb_4 K_3
  replace hb_4 : Blk w_2 b_1 [.int .i64 ((h).owner), .string ((h).key)] 42 := hb_4
  have ne_6 : b < b_1 := Nat.lt_of_lt_of_le hb.lt hl_5
  have : w.heap.size ≤ b_1 := hl_5
  clear hl_5
  replace hb := hb.ext K_3
  have K0 := (K_3 : Ext w _)
  refine RL.val (x_assignB rfl) ?_
  refine RL.nil ?_
  refine Run.seq ?_
  refine Run.region ?_
  refine RL.val (x_moveP rfl) ?_
  refine RL.st rfl <| St1.call (vals := [.pointer (some ⟨b, 0, none⟩)]) en42 rfl (there _ false _ _ _ (fun _ => 0) _ _ hb) ?_
  rintro _ w_7 ⟨rfl, K_8⟩
  replace hb := hb.ext K_8
  replace hb_4 := hb_4.ext K_8
  replace K0 := K0.ext K_8
  refine RL.val (x_moveB rfl) ?_
  refine RL.guardF (wantedT0 rfl rfl rfl rfl) ?_
  refine RL.guardF (wantedT0 rfl rfl rfl rfl) ?_
  refine RL.guardF (wantedT0 rfl rfl rfl rfl) ?_
  refine RL.guardF (wantedT0 rfl rfl rfl rfl) ?_
  refine RL.val (x_and (b := false) (e := false) rfl rfl rfl) ?_
  refine RL.val (x_assignB rfl) ?_
  refine RL.nil ?_
  refine Run.ret1 (v := .bool (false)) Try.func23 rfl rfl ?_
  exact ⟨_, rfl, rfl, K0⟩

set_option maxHeartbeats 4000000 in
theorem Hints_nil  (w : World) :
    Calls Try.prog 24 #[.pointer none] w (Ret (fun v w' => v = .slice (none) (0) (0) ∧ Ext w w')) := by
  refine calls_run (n := 25) Try.func24 rfl rfl rfl ?_
  refine Run.seq ?_
  refine Run.region ?_
  refine RL.val (x_assignSl rfl) ?_
  refine RL.nil ?_
  refine Run.seq ?_
  refine Run.seq ?_
  refine Run.region ?_
  refine RL.val (x_moveP rfl) ?_
  refine RL.st rfl <| St1.call (vals := [.pointer none]) en42 rfl (thereNil _) ?_
  rintro _ w_1 ⟨rfl, K_2⟩
  have K0 := (K_2 : Ext w _)
  refine RL.val (x_not rfl) ?_
  refine RL.nil ?_
  refine Run.condT rfl ?_
  refine Run.seq ?_
  refine Run.region ?_
  refine RL.val (x_assignSl rfl) ?_
  refine RL.nil ?_
  refine Run.ret1 (v := .slice (none) (0) (0)) Try.func24 rfl rfl ?_
  exact ⟨_, rfl, rfl, K0⟩

set_option maxHeartbeats 4000000 in
theorem Hints_zero (b : Nat)  (w : World) (hb : Blk w b [.bool (false), .slice (none) (0) (0), .int .i64 (0), .int .i64 (0), .int .i64 (0), .int .i64 (0), .int .i64 (0), .int .i64 (0), .int .i64 (0), .int .i64 (0), .int .i64 (0)] 51) :
    Calls Try.prog 24 #[.pointer (some ⟨b, 0, none⟩)] w (Ret (fun v w' => v = .slice (none) (0) (0) ∧ Ext w w')) := by
  refine calls_run (n := 25) Try.func24 rfl rfl rfl ?_
  refine Run.seq ?_
  refine Run.region ?_
  refine RL.val (x_assignSl rfl) ?_
  refine RL.nil ?_
  refine Run.seq ?_
  refine Run.seq ?_
  refine Run.region ?_
  refine RL.val (x_moveP rfl) ?_
  refine RL.st rfl <| St1.call (vals := [.pointer (some ⟨b, 0, none⟩)]) en42 rfl (there _ false _ _ _ (fun _ => 0) _ _ hb) ?_
  rintro _ w_1 ⟨rfl, K_2⟩
  replace hb := hb.ext K_2
  have K0 := (K_2 : Ext w _)
  refine RL.val (x_not rfl) ?_
  refine RL.nil ?_
  refine Run.condT rfl ?_
  refine Run.seq ?_
  refine Run.region ?_
  refine RL.val (x_assignSl rfl) ?_
  refine RL.nil ?_
  refine Run.ret1 (v := .slice (none) (0) (0)) Try.func24 rfl rfl ?_
  exact ⟨_, rfl, rfl, K0⟩

set_option maxHeartbeats 4000000 in
theorem Count_nil (o : Int) (w : World) :
    Calls Try.prog 21 #[.pointer none, .int .i64 (o)] w (Ret (fun v w' => v = .int .i64 (0) ∧ Ext w w')) := by
  refine calls_run (n := 22) Try.func21 rfl rfl rfl ?_
  refine Run.seq ?_
  refine Run.region ?_
  refine RL.val (x_assignI rfl) ?_
  refine RL.nil ?_
  refine Run.seq ?_
  refine Run.seq ?_
  refine Run.region ?_
  refine RL.val (x_moveP rfl) ?_
  refine RL.st rfl <| St1.call (vals := [.pointer none]) en42 rfl (thereNil _) ?_
  rintro _ w_1 ⟨rfl, K_2⟩
  have K0 := (K_2 : Ext w _)
  refine RL.val (x_not rfl) ?_
  refine RL.val (x_moveB rfl) ?_
  refine RL.guardF (wantedF0 rfl rfl rfl rfl) ?_
  refine RL.guardF (wantedF0 rfl rfl rfl rfl) ?_
  refine RL.val (x_or (b := true) (e := false) rfl rfl rfl) ?_
  refine RL.val (x_moveB rfl) ?_
  refine RL.guardF (wantedF0 rfl rfl rfl rfl) ?_
  refine RL.guardF (wantedF0 rfl rfl rfl rfl) ?_
  refine RL.val (x_or (b := true) (e := false) rfl rfl rfl) ?_
  refine RL.nil ?_
  refine Run.condT rfl ?_
  refine Run.seq ?_
  refine Run.region ?_
  refine RL.val (x_assignI rfl) ?_
  refine RL.nil ?_
  refine Run.ret1 (v := .int .i64 (0)) Try.func21 rfl rfl ?_
  exact ⟨_, rfl, rfl, K0⟩

set_option maxHeartbeats 4000000 in
theorem Count_zero (b : Nat) (o : Int) (w : World) (hb : Blk w b [.bool (false), .slice (none) (0) (0), .int .i64 (0), .int .i64 (0), .int .i64 (0), .int .i64 (0), .int .i64 (0), .int .i64 (0), .int .i64 (0), .int .i64 (0), .int .i64 (0)] 51) :
    Calls Try.prog 21 #[.pointer (some ⟨b, 0, none⟩), .int .i64 (o)] w (Ret (fun v w' => v = .int .i64 (0) ∧ Ext w w')) := by
  refine calls_run (n := 22) Try.func21 rfl rfl rfl ?_
  refine Run.seq ?_
  refine Run.region ?_
  refine RL.val (x_assignI rfl) ?_
  refine RL.nil ?_
  refine Run.seq ?_
  refine Run.seq ?_
  refine Run.region ?_
  refine RL.val (x_moveP rfl) ?_
  refine RL.st rfl <| St1.call (vals := [.pointer (some ⟨b, 0, none⟩)]) en42 rfl (there _ false _ _ _ (fun _ => 0) _ _ hb) ?_
  rintro _ w_1 ⟨rfl, K_2⟩
  replace hb := hb.ext K_2
  have K0 := (K_2 : Ext w _)
  refine RL.val (x_not rfl) ?_
  refine RL.val (x_moveB rfl) ?_
  refine RL.guardF (wantedF0 rfl rfl rfl rfl) ?_
  refine RL.guardF (wantedF0 rfl rfl rfl rfl) ?_
  refine RL.val (x_or (b := true) (e := false) rfl rfl rfl) ?_
  refine RL.val (x_moveB rfl) ?_
  refine RL.guardF (wantedF0 rfl rfl rfl rfl) ?_
  refine RL.guardF (wantedF0 rfl rfl rfl rfl) ?_
  refine RL.val (x_or (b := true) (e := false) rfl rfl rfl) ?_
  refine RL.nil ?_
  refine Run.condT rfl ?_
  refine Run.seq ?_
  refine Run.region ?_
  refine RL.val (x_assignI rfl) ?_
  refine RL.nil ?_
  refine Run.ret1 (v := .int .i64 (0)) Try.func21 rfl rfl ?_
  exact ⟨_, rfl, rfl, K0⟩

set_option maxHeartbeats 4000000 in
theorem Due_nil (t : Int) (au : Option Addr) (nu cu : Nat) (w : World) :
    Calls Try.prog 18 #[.pointer none, .int .i64 (t), .slice (au) (nu) (cu)] w (Ret (fun v w' => v = .slice (none) (0) (0) ∧ Ext w w')) := by
  refine calls_run (n := 115) Try.func18 rfl rfl rfl ?_
  refine Run.seq ?_
  refine Run.region ?_
  refine RL.val (x_assignSl rfl) ?_
  refine RL.nil ?_
  refine Run.seq ?_
  refine Run.seq ?_
  refine Run.region ?_
  refine RL.val (x_moveP rfl) ?_
  refine RL.st rfl <| St1.call (vals := [.pointer none]) en42 rfl (thereNil _) ?_
  rintro _ w_1 ⟨rfl, K_2⟩
  have K0 := (K_2 : Ext w _)
  refine RL.val (x_not rfl) ?_
  refine RL.nil ?_
  refine Run.condT rfl ?_
  refine Run.seq ?_
  refine Run.region ?_
  refine RL.val (x_assignSl rfl) ?_
  refine RL.nil ?_
  refine Run.ret1 (v := .slice (none) (0) (0)) Try.func18 rfl rfl ?_
  exact ⟨_, rfl, rfl, K0⟩

set_option maxHeartbeats 4000000 in
theorem Due_zero (b : Nat) (t : Int) (au : Option Addr) (nu cu : Nat) (w : World) (hb : Blk w b [.bool (false), .slice (none) (0) (0), .int .i64 (0), .int .i64 (0), .int .i64 (0), .int .i64 (0), .int .i64 (0), .int .i64 (0), .int .i64 (0), .int .i64 (0), .int .i64 (0)] 51) :
    Calls Try.prog 18 #[.pointer (some ⟨b, 0, none⟩), .int .i64 (t), .slice (au) (nu) (cu)] w (Ret (fun v w' => v = .slice (none) (0) (0) ∧ Ext w w')) := by
  refine calls_run (n := 115) Try.func18 rfl rfl rfl ?_
  refine Run.seq ?_
  refine Run.region ?_
  refine RL.val (x_assignSl rfl) ?_
  refine RL.nil ?_
  refine Run.seq ?_
  refine Run.seq ?_
  refine Run.region ?_
  refine RL.val (x_moveP rfl) ?_
  refine RL.st rfl <| St1.call (vals := [.pointer (some ⟨b, 0, none⟩)]) en42 rfl (there _ false _ _ _ (fun _ => 0) _ _ hb) ?_
  rintro _ w_1 ⟨rfl, K_2⟩
  replace hb := hb.ext K_2
  have K0 := (K_2 : Ext w _)
  refine RL.val (x_not rfl) ?_
  refine RL.nil ?_
  refine Run.condT rfl ?_
  refine Run.seq ?_
  refine Run.region ?_
  refine RL.val (x_assignSl rfl) ?_
  refine RL.nil ?_
  refine Run.ret1 (v := .slice (none) (0) (0)) Try.func18 rfl rfl ?_
  exact ⟨_, rfl, rfl, K0⟩

set_option maxHeartbeats 4000000 in
theorem law_none (h : Hint) (t : Int) (au : Option Addr) (nu cu : Nat) (w : World) :
    Calls Try.prog 7 #[.agg #[.int .i64 ((h).owner), .string ((h).key)], .int .i64 (t), .slice (au) (nu) (cu)] w (Ret (fun v w' => v = .bool true ∧ Ext w w')) := by
  refine calls_run (n := 51) Try.func7 rfl rfl rfl ?_
  refine Run.seq ?_
  refine Run.region ?_
  refine RL.st rfl <| St1.box (v := .agg #[.int .i64 ((h).owner), .string ((h).key)]) rfl ?_
  intro b_1 w_2 hl_5 hb_4 K_3
  replace hb_4 : Blk w_2 b_1 [.int .i64 ((h).owner), .string ((h).key)] 42 := hb_4
  have : w.heap.size ≤ b_1 := hl_5
  clear hl_5
  have K0 := (K_3 : Ext w _)
  refine RL.val (x_assignB rfl) ?_
  refine RL.nil ?_
  refine Run.seq ?_
  refine Run.seq ?_
  refine Run.region ?_
  refine RL.val (x_build (cells := #[.bool (false), .slice (none) (0) (0), .int .i64 (0), .int .i64 (0), .int .i64 (0), .int .i64 (0), .int .i64 (0), .int .i64 (0), .int .i64 (0), .int .i64 (0), .int .i64 (0)]) (by kernel_rfl)) ?_
  refine RL.st rfl <| St1.box (v := .agg #[.bool (false), .slice (none) (0) (0), .int .i64 (0), .int .i64 (0), .int .i64 (0), .int .i64 (0), .int .i64 (0), .int .i64 (0), .int .i64 (0), .int .i64 (0), .int .i64 (0)]) rfl ?_
  intro b_6 w_7 hl_10 hb_9 K_8
  replace hb_9 : Blk w_7 b_6 [.bool (false), .slice (none) (0) (0), .int .i64 (0), .int .i64 (0), .int .i64 (0), .int .i64 (0), .int .i64 (0), .int .i64 (0), .int .i64 (0), .int .i64 (0), .int .i64 (0)] 51 := hb_9
  have ne_11 : b_1 < b_6 := Nat.lt_of_lt_of_le hb_4.lt hl_10
  have : w.heap.size ≤ b_6 := Nat.le_trans K0.size hl_10
  clear hl_10
  replace hb_4 := hb_4.ext K_8
  replace K0 := K0.ext K_8
  refine RL.st rfl <| St1.buildSlice ([(none : Option Addr), some (⟨b_6, 0, none⟩ : Addr)] : List (Option Addr)) Try.underlying52 ty34 rfl rfl (by first | decide | (simp [Enc.size])) ?_
  intro b_12 w_13 hl_16 ho_15 K_14
  have pr_17 : ¬ own (some ⟨b_12, 0, none⟩) b_1 := notNew (ge_new hl_16) hb_4.lt
  have pr_18 : ¬ own (some ⟨b_12, 0, none⟩) b_6 := notNew (ge_new hl_16) hb_9.lt
  have pg_19 : ∀ q_, own (some ⟨b_12, 0, none⟩) q_ → w.heap.size ≤ q_ := fun q_ h => Nat.le_trans K0.size ((ge_new hl_16) q_ h)
  clear hl_16
  replace hb_4 := hb_4.ext K_14
  replace hb_9 := hb_9.ext K_14
  replace K0 := K0.ext K_14
  refine RL.val (litI (c := 2) (x_lenSl Try.underlying52 rfl) rfl) ?_
  refine RL.val (x_moveI rfl) ?_
  refine RL.nil ?_
  refine Run.block ?_
  refine Run.unloop ?_
  refine Run.seq ?_
  refine Run.region ?_
  refine RL.val (litT (x_ltI rfl rfl) (by decide)) ?_
  refine RL.nil ?_
  refine Run.seq ?_
  refine Run.condT rfl ?_
  refine Run.skip ?_
  refine Run.seq ?_
  refine Run.block ?_
  refine Run.seq ?_
  refine Run.region ?_
  obtain ⟨b_20, o_21, x_24, hx_25, ha_22, hc_23⟩ := ho_15.sl.el (i := 0) (by simp)
  obtain rfl : (none : Option Addr) = x_24 := Option.some.inj hx_25
  refine RL.val (x_idxN Try.underlying52 ty34 rfl rfl ha_22 (by simp)) ?_
  refine RL.val (x_ldV (v := .pointer none) (y := (none : Option Addr)) ty34 rfl hc_23 rfl) ?_
  refine RL.val (x_assignP rfl) ?_
  refine RL.nil ?_
  refine Run.seq ?_
  refine Run.drawT [] (m := 32) (by kernel_rfl) rfl ?_
  intro w_26 K_27
  replace hb_4 := hb_4.ext K_27
  replace hb_9 := hb_9.ext K_27
  replace ho_15 := ho_15.ext K_27
  replace K0 := K0.ext K_27
  refine ⟨fun w' => Blk w' b_1 [.int .i64 ((h).owner), .string ((h).key)] 42 ∧ True, ?_⟩
  refine RT.takeP (v := .pointer none) 0 rfl (by kernel_rfl) (.inr ⟨hb_4, trivial⟩) (fun _ => (x_moveP rfl)) ?_
  refine RT.take (v := .agg #[.int .i64 ((h).owner), .string ((h).key)]) 1 rfl (by kernel_rfl) ⟨hb_4, trivial⟩ (by rintro _ ⟨hb_4, -⟩; exact (x_lds (cs := #[.int .i64 ((h).owner), .string ((h).key)]) ty42 rfl rfl (hb_4.cl.drop 0 2))) ?_
  refine RT.st 2 rfl (by kernel_rfl) rfl <| St1.call (vals := [.pointer none, .agg #[.int .i64 ((h).owner), .string ((h).key)]]) en19 rfl (Put_nil h _) ?_
  rintro _ w_28 ⟨rfl, K_29⟩
  replace hb_4 := hb_4.ext K_29
  replace hb_9 := hb_9.ext K_29
  replace ho_15 := ho_15.ext K_29
  replace K0 := K0.ext K_29
  refine ⟨.inr ⟨hb_4, trivial⟩, ?_⟩
  refine RT.takeP (v := .bool (false)) 3 rfl (by kernel_rfl) (.inr ⟨hb_4, trivial⟩) (fun _ => (litF (x_neI rfl rfl) (by decide))) ?_
  refine RT.takeP (v := .bool (false)) 4 rfl (by kernel_rfl) (.inr ⟨hb_4, trivial⟩) (fun _ => (x_moveB rfl)) ?_
  refine RT.gtakeP (v := .pointer none) 5 rfl (by kernel_rfl) (.inr ⟨hb_4, trivial⟩) (wantedF1 rfl rfl rfl rfl) (fun hg _ => (x_moveP rfl)) ?_
  refine RT.gtake (v := .agg #[.int .i64 ((h).owner), .string ((h).key)]) 6 rfl (by kernel_rfl) ⟨hb_4, trivial⟩ (wantedF1 rfl rfl rfl rfl) (fun hg => by rintro _ ⟨hb_4, -⟩; exact (x_lds (cs := #[.int .i64 ((h).owner), .string ((h).key)]) ty42 rfl rfl (hb_4.cl.drop 0 2))) ?_
  refine RT.gst 7 rfl (by kernel_rfl) (wantedF1 rfl rfl rfl rfl) <| St1.call (vals := [.pointer none, .agg #[.int .i64 ((h).owner), .string ((h).key)]]) en22 rfl (Drop_nil h _) ?_
  rintro _ w_30 ⟨rfl, K_31⟩
  replace hb_4 := hb_4.ext K_31
  replace hb_9 := hb_9.ext K_31
  replace ho_15 := ho_15.ext K_31
  replace K0 := K0.ext K_31
  refine ⟨.inr ⟨hb_4, trivial⟩, ?_⟩
  refine RT.gtakeP (v := .bool (false)) 8 rfl (by kernel_rfl) (.inr ⟨hb_4, trivial⟩) (wantedF1 rfl rfl rfl rfl) (fun hg _ => (litF (x_neI rfl rfl) (by decide))) ?_
  refine RT.takeP (v := .bool (false)) 9 rfl (by kernel_rfl) (.inr ⟨hb_4, trivial⟩) (fun _ => (x_orF rfl rfl rfl)) ?_
  refine RT.takeP (v := .bool (false)) 10 rfl (by kernel_rfl) (.inr ⟨hb_4, trivial⟩) (fun _ => (x_moveB rfl)) ?_
  refine RT.gtakeP (v := .pointer none) 11 rfl (by kernel_rfl) (.inr ⟨hb_4, trivial⟩) (wantedF1 rfl rfl rfl rfl) (fun hg _ => (x_moveP rfl)) ?_
  refine RT.gtake (v := .agg #[.int .i64 ((h).owner), .string ((h).key)]) 12 rfl (by kernel_rfl) ⟨hb_4, trivial⟩ (wantedF1 rfl rfl rfl rfl) (fun hg => by rintro _ ⟨hb_4, -⟩; exact (x_lds (cs := #[.int .i64 ((h).owner), .string ((h).key)]) ty42 rfl rfl (hb_4.cl.drop 0 2))) ?_
  refine RT.gst 13 rfl (by kernel_rfl) (wantedF1 rfl rfl rfl rfl) <| St1.call (vals := [.pointer none, .agg #[.int .i64 ((h).owner), .string ((h).key)]]) en23 rfl (Has_nil h _) ?_
  rintro _ w_32 ⟨rfl, K_33⟩
  replace hb_4 := hb_4.ext K_33
  replace hb_9 := hb_9.ext K_33
  replace ho_15 := ho_15.ext K_33
  replace K0 := K0.ext K_33
  refine ⟨.inr ⟨hb_4, trivial⟩, ?_⟩
  refine RT.takeP (v := .bool (false)) 14 rfl (by kernel_rfl) (.inr ⟨hb_4, trivial⟩) (fun _ => (x_orF rfl rfl rfl)) ?_
  refine RT.takeP (v := .bool (false)) 15 rfl (by kernel_rfl) (.inr ⟨hb_4, trivial⟩) (fun _ => (x_moveB rfl)) ?_
  refine RT.gtakeP (v := .pointer none) 16 rfl (by kernel_rfl) (.inr ⟨hb_4, trivial⟩) (wantedF1 rfl rfl rfl rfl) (fun hg _ => (x_moveP rfl)) ?_
  refine RT.gtakeP (v := .pointer none) 19 rfl (by kernel_rfl) (.inr ⟨hb_4, trivial⟩) (wantedF1 rfl rfl rfl rfl) (fun hg _ => (x_moveP rfl)) ?_
  refine RT.gtakeP (v := .pointer (some ⟨b_1, 0, none⟩)) 20 rfl (by kernel_rfl) (.inr ⟨hb_4, trivial⟩) (wantedF1 rfl rfl rfl rfl) (fun hg _ => (x_fld (o' := 0) Try.underlying42 rfl ty3 rfl rfl rfl)) ?_
  refine RT.gtake (v := .int .i64 ((h).owner)) 21 rfl (by kernel_rfl) ⟨hb_4, trivial⟩ (wantedF1 rfl rfl rfl rfl) (fun hg => by rintro _ ⟨hb_4, -⟩; exact (x_ld (v := .int .i64 ((h).owner)) ty3 rfl rfl (hb_4.cl.field (i := 0) rfl))) ?_
  refine RT.gtakeP (v := .pointer none) 24 rfl (by kernel_rfl) (.inr ⟨hb_4, trivial⟩) (wantedF1 rfl rfl rfl rfl) (fun hg _ => (x_moveP rfl)) ?_
  refine RT.gtakeP (v := .int .i64 (t)) 25 rfl (by kernel_rfl) (.inr ⟨hb_4, trivial⟩) (wantedF1 rfl rfl rfl rfl) (fun hg _ => (x_moveI rfl)) ?_
  refine RT.gtakeP (v := .slice (au) (nu) (cu)) 26 rfl (by kernel_rfl) (.inr ⟨hb_4, trivial⟩) (wantedF1 rfl rfl rfl rfl) (fun hg _ => (x_moveSl rfl)) ?_
  refine RT.gst 17 rfl (by kernel_rfl) (wantedF1 rfl rfl rfl rfl) <| St1.call (vals := [.pointer none]) en24 rfl (Hints_nil  _) ?_
  rintro _ w_34 ⟨rfl, K_35⟩
  replace hb_4 := hb_4.ext K_35
  replace hb_9 := hb_9.ext K_35
  replace ho_15 := ho_15.ext K_35
  replace K0 := K0.ext K_35
  refine ⟨.inr ⟨hb_4, trivial⟩, ?_⟩
  refine RT.gtakeP (v := .int .i64 (0)) 18 rfl (by kernel_rfl) (.inr ⟨hb_4, trivial⟩) (wantedF1 rfl rfl rfl rfl) (fun hg _ => (litI (c := 0) (x_lenSl Try.underlying35 rfl) rfl)) ?_
  refine RT.gst 22 rfl (by kernel_rfl) (wantedF1 rfl rfl rfl rfl) <| St1.call (vals := [.pointer none, .int .i64 ((h).owner)]) en21 rfl (Count_nil ((h).owner) _) ?_
  rintro _ w_36 ⟨rfl, K_37⟩
  replace hb_4 := hb_4.ext K_37
  replace hb_9 := hb_9.ext K_37
  replace ho_15 := ho_15.ext K_37
  replace K0 := K0.ext K_37
  refine ⟨.inr ⟨hb_4, trivial⟩, ?_⟩
  refine RT.gtakeP (v := .int .i64 (0)) 23 rfl (by kernel_rfl) (.inr ⟨hb_4, trivial⟩) (wantedF1 rfl rfl rfl rfl) (fun hg _ => (litI (c := 0) (x_add rfl rfl (by decide) (by decide)) (by decide))) ?_
  refine RT.gst 27 rfl (by kernel_rfl) (wantedF1 rfl rfl rfl rfl) <| St1.call (vals := [.pointer none, .int .i64 (t), .slice (au) (nu) (cu)]) en18 rfl (Due_nil t au nu cu _) ?_
  rintro _ w_38 ⟨rfl, K_39⟩
  replace hb_4 := hb_4.ext K_39
  replace hb_9 := hb_9.ext K_39
  replace ho_15 := ho_15.ext K_39
  replace K0 := K0.ext K_39
  refine ⟨.inr ⟨hb_4, trivial⟩, ?_⟩
  refine RT.gtakeP (v := .int .i64 (0)) 28 rfl (by kernel_rfl) (.inr ⟨hb_4, trivial⟩) (wantedF1 rfl rfl rfl rfl) (fun hg _ => (litI (c := 0) (x_lenSl Try.underlying35 rfl) rfl)) ?_
  refine RT.gtakeP (v := .int .i64 (0)) 29 rfl (by kernel_rfl) (.inr ⟨hb_4, trivial⟩) (wantedF1 rfl rfl rfl rfl) (fun hg _ => (litI (c := 0) (x_add rfl rfl (by decide) (by decide)) (by decide))) ?_
  refine RT.gtakeP (v := .bool (false)) 30 rfl (by kernel_rfl) (.inr ⟨hb_4, trivial⟩) (wantedF1 rfl rfl rfl rfl) (fun hg _ => (litF (x_neI rfl rfl) (by decide))) ?_
  refine RT.takeP (v := .bool (false)) 31 rfl (by kernel_rfl) (.inr ⟨hb_4, trivial⟩) (fun _ => (x_orF rfl rfl rfl)) ?_
  refine RT.done (by kernel_rfl) ?_
  refine Run.condF rfl ?_
  refine Run.skip ?_
  refine Run.inBlock ?_
  refine Run.region ?_
  refine RL.val (litI (c := 1) (x_add rfl rfl (by decide) (by decide)) (by decide)) ?_
  refine RL.val (x_moveI rfl) ?_
  refine RL.nil ?_
  refine Run.inLoop ?_
  refine Run.seq ?_
  refine Run.region ?_
  refine RL.val (litT (x_ltI rfl rfl) (by decide)) ?_
  refine RL.nil ?_
  refine Run.seq ?_
  refine Run.condT rfl ?_
  refine Run.skip ?_
  refine Run.seq ?_
  refine Run.block ?_
  refine Run.seq ?_
  refine Run.region ?_
  obtain ⟨b_40, o_41, x_44, hx_45, ha_42, hc_43⟩ := ho_15.sl.el (i := 1) (by simp)
  obtain rfl : some (⟨b_6, 0, none⟩ : Addr) = x_44 := Option.some.inj hx_45
  refine RL.val (x_idxN Try.underlying52 ty34 rfl rfl ha_42 (by simp)) ?_
  refine RL.val (x_ldV (v := .pointer (some ⟨b_6, 0, none⟩)) (y := some (⟨b_6, 0, none⟩ : Addr)) ty34 rfl hc_43 rfl) ?_
  refine RL.val (x_assignP rfl) ?_
  refine RL.nil ?_
  refine Run.seq ?_
  refine Run.drawT [] (m := 32) (by kernel_rfl) rfl ?_
  intro w_46 K_47
  replace hb_4 := hb_4.ext K_47
  replace hb_9 := hb_9.ext K_47
  replace ho_15 := ho_15.ext K_47
  replace K0 := K0.ext K_47
  refine ⟨fun w' => Blk w' b_1 [.int .i64 ((h).owner), .string ((h).key)] 42 ∧ True, ?_⟩
  refine RT.takeP (v := .pointer (some ⟨b_6, 0, none⟩)) 0 rfl (by kernel_rfl) (.inr ⟨hb_4, trivial⟩) (fun _ => (x_moveP rfl)) ?_
  refine RT.take (v := .agg #[.int .i64 ((h).owner), .string ((h).key)]) 1 rfl (by kernel_rfl) ⟨hb_4, trivial⟩ (by rintro _ ⟨hb_4, -⟩; exact (x_lds (cs := #[.int .i64 ((h).owner), .string ((h).key)]) ty42 rfl rfl (hb_4.cl.drop 0 2))) ?_
  refine RT.st 2 rfl (by kernel_rfl) rfl <| St1.call (vals := [.pointer (some ⟨b_6, 0, none⟩), .agg #[.int .i64 ((h).owner), .string ((h).key)]]) en19 rfl (Put_zero _ h _ hb_9) ?_
  rintro _ w_48 ⟨rfl, K_49⟩
  replace hb_4 := hb_4.ext K_49
  replace hb_9 := hb_9.ext K_49
  replace ho_15 := ho_15.ext K_49
  replace K0 := K0.ext K_49
  refine ⟨.inr ⟨hb_4, trivial⟩, ?_⟩
  refine RT.takeP (v := .bool (false)) 3 rfl (by kernel_rfl) (.inr ⟨hb_4, trivial⟩) (fun _ => (litF (x_neI rfl rfl) (by decide))) ?_
  refine RT.takeP (v := .bool (false)) 4 rfl (by kernel_rfl) (.inr ⟨hb_4, trivial⟩) (fun _ => (x_moveB rfl)) ?_
  refine RT.gtakeP (v := .pointer (some ⟨b_6, 0, none⟩)) 5 rfl (by kernel_rfl) (.inr ⟨hb_4, trivial⟩) (wantedF1 rfl rfl rfl rfl) (fun hg _ => (x_moveP rfl)) ?_
  refine RT.gtake (v := .agg #[.int .i64 ((h).owner), .string ((h).key)]) 6 rfl (by kernel_rfl) ⟨hb_4, trivial⟩ (wantedF1 rfl rfl rfl rfl) (fun hg => by rintro _ ⟨hb_4, -⟩; exact (x_lds (cs := #[.int .i64 ((h).owner), .string ((h).key)]) ty42 rfl rfl (hb_4.cl.drop 0 2))) ?_
  refine RT.gst 7 rfl (by kernel_rfl) (wantedF1 rfl rfl rfl rfl) <| St1.call (vals := [.pointer (some ⟨b_6, 0, none⟩), .agg #[.int .i64 ((h).owner), .string ((h).key)]]) en22 rfl (Drop_zero _ h _ hb_9) ?_
  rintro _ w_50 ⟨rfl, K_51⟩
  replace hb_4 := hb_4.ext K_51
  replace hb_9 := hb_9.ext K_51
  replace ho_15 := ho_15.ext K_51
  replace K0 := K0.ext K_51
  refine ⟨.inr ⟨hb_4, trivial⟩, ?_⟩
  refine RT.gtakeP (v := .bool (false)) 8 rfl (by kernel_rfl) (.inr ⟨hb_4, trivial⟩) (wantedF1 rfl rfl rfl rfl) (fun hg _ => (litF (x_neI rfl rfl) (by decide))) ?_
  refine RT.takeP (v := .bool (false)) 9 rfl (by kernel_rfl) (.inr ⟨hb_4, trivial⟩) (fun _ => (x_orF rfl rfl rfl)) ?_
  refine RT.takeP (v := .bool (false)) 10 rfl (by kernel_rfl) (.inr ⟨hb_4, trivial⟩) (fun _ => (x_moveB rfl)) ?_
  refine RT.gtakeP (v := .pointer (some ⟨b_6, 0, none⟩)) 11 rfl (by kernel_rfl) (.inr ⟨hb_4, trivial⟩) (wantedF1 rfl rfl rfl rfl) (fun hg _ => (x_moveP rfl)) ?_
  refine RT.gtake (v := .agg #[.int .i64 ((h).owner), .string ((h).key)]) 12 rfl (by kernel_rfl) ⟨hb_4, trivial⟩ (wantedF1 rfl rfl rfl rfl) (fun hg => by rintro _ ⟨hb_4, -⟩; exact (x_lds (cs := #[.int .i64 ((h).owner), .string ((h).key)]) ty42 rfl rfl (hb_4.cl.drop 0 2))) ?_
  refine RT.gst 13 rfl (by kernel_rfl) (wantedF1 rfl rfl rfl rfl) <| St1.call (vals := [.pointer (some ⟨b_6, 0, none⟩), .agg #[.int .i64 ((h).owner), .string ((h).key)]]) en23 rfl (Has_zero _ h _ hb_9) ?_
  rintro _ w_52 ⟨rfl, K_53⟩
  replace hb_4 := hb_4.ext K_53
  replace hb_9 := hb_9.ext K_53
  replace ho_15 := ho_15.ext K_53
  replace K0 := K0.ext K_53
  refine ⟨.inr ⟨hb_4, trivial⟩, ?_⟩
  refine RT.takeP (v := .bool (false)) 14 rfl (by kernel_rfl) (.inr ⟨hb_4, trivial⟩) (fun _ => (x_orF rfl rfl rfl)) ?_
  refine RT.takeP (v := .bool (false)) 15 rfl (by kernel_rfl) (.inr ⟨hb_4, trivial⟩) (fun _ => (x_moveB rfl)) ?_
  refine RT.gtakeP (v := .pointer (some ⟨b_6, 0, none⟩)) 16 rfl (by kernel_rfl) (.inr ⟨hb_4, trivial⟩) (wantedF1 rfl rfl rfl rfl) (fun hg _ => (x_moveP rfl)) ?_
  refine RT.gtakeP (v := .pointer (some ⟨b_6, 0, none⟩)) 19 rfl (by kernel_rfl) (.inr ⟨hb_4, trivial⟩) (wantedF1 rfl rfl rfl rfl) (fun hg _ => (x_moveP rfl)) ?_
  refine RT.gtakeP (v := .pointer (some ⟨b_1, 0, none⟩)) 20 rfl (by kernel_rfl) (.inr ⟨hb_4, trivial⟩) (wantedF1 rfl rfl rfl rfl) (fun hg _ => (x_fld (o' := 0) Try.underlying42 rfl ty3 rfl rfl rfl)) ?_
  refine RT.gtake (v := .int .i64 ((h).owner)) 21 rfl (by kernel_rfl) ⟨hb_4, trivial⟩ (wantedF1 rfl rfl rfl rfl) (fun hg => by rintro _ ⟨hb_4, -⟩; exact (x_ld (v := .int .i64 ((h).owner)) ty3 rfl rfl (hb_4.cl.field (i := 0) rfl))) ?_
  refine RT.gtakeP (v := .pointer (some ⟨b_6, 0, none⟩)) 24 rfl (by kernel_rfl) (.inr ⟨hb_4, trivial⟩) (wantedF1 rfl rfl rfl rfl) (fun hg _ => (x_moveP rfl)) ?_
  refine RT.gtakeP (v := .int .i64 (t)) 25 rfl (by kernel_rfl) (.inr ⟨hb_4, trivial⟩) (wantedF1 rfl rfl rfl rfl) (fun hg _ => (x_moveI rfl)) ?_
  refine RT.gtakeP (v := .slice (au) (nu) (cu)) 26 rfl (by kernel_rfl) (.inr ⟨hb_4, trivial⟩) (wantedF1 rfl rfl rfl rfl) (fun hg _ => (x_moveSl rfl)) ?_
  refine RT.gst 17 rfl (by kernel_rfl) (wantedF1 rfl rfl rfl rfl) <| St1.call (vals := [.pointer (some ⟨b_6, 0, none⟩)]) en24 rfl (Hints_zero _  _ hb_9) ?_
  rintro _ w_54 ⟨rfl, K_55⟩
  replace hb_4 := hb_4.ext K_55
  replace hb_9 := hb_9.ext K_55
  replace ho_15 := ho_15.ext K_55
  replace K0 := K0.ext K_55
  refine ⟨.inr ⟨hb_4, trivial⟩, ?_⟩
  refine RT.gtakeP (v := .int .i64 (0)) 18 rfl (by kernel_rfl) (.inr ⟨hb_4, trivial⟩) (wantedF1 rfl rfl rfl rfl) (fun hg _ => (litI (c := 0) (x_lenSl Try.underlying35 rfl) rfl)) ?_
  refine RT.gst 22 rfl (by kernel_rfl) (wantedF1 rfl rfl rfl rfl) <| St1.call (vals := [.pointer (some ⟨b_6, 0, none⟩), .int .i64 ((h).owner)]) en21 rfl (Count_zero _ ((h).owner) _ hb_9) ?_
  rintro _ w_56 ⟨rfl, K_57⟩
  replace hb_4 := hb_4.ext K_57
  replace hb_9 := hb_9.ext K_57
  replace ho_15 := ho_15.ext K_57
  replace K0 := K0.ext K_57
  refine ⟨.inr ⟨hb_4, trivial⟩, ?_⟩
  refine RT.gtakeP (v := .int .i64 (0)) 23 rfl (by kernel_rfl) (.inr ⟨hb_4, trivial⟩) (wantedF1 rfl rfl rfl rfl) (fun hg _ => (litI (c := 0) (x_add rfl rfl (by decide) (by decide)) (by decide))) ?_
  refine RT.gst 27 rfl (by kernel_rfl) (wantedF1 rfl rfl rfl rfl) <| St1.call (vals := [.pointer (some ⟨b_6, 0, none⟩), .int .i64 (t), .slice (au) (nu) (cu)]) en18 rfl (Due_zero _ t au nu cu _ hb_9) ?_
  rintro _ w_58 ⟨rfl, K_59⟩
  replace hb_4 := hb_4.ext K_59
  replace hb_9 := hb_9.ext K_59
  replace ho_15 := ho_15.ext K_59
  replace K0 := K0.ext K_59
  refine ⟨.inr ⟨hb_4, trivial⟩, ?_⟩
  refine RT.gtakeP (v := .int .i64 (0)) 28 rfl (by kernel_rfl) (.inr ⟨hb_4, trivial⟩) (wantedF1 rfl rfl rfl rfl) (fun hg _ => (litI (c := 0) (x_lenSl Try.underlying35 rfl) rfl)) ?_
  refine RT.gtakeP (v := .int .i64 (0)) 29 rfl (by kernel_rfl) (.inr ⟨hb_4, trivial⟩) (wantedF1 rfl rfl rfl rfl) (fun hg _ => (litI (c := 0) (x_add rfl rfl (by decide) (by decide)) (by decide))) ?_
  refine RT.gtakeP (v := .bool (false)) 30 rfl (by kernel_rfl) (.inr ⟨hb_4, trivial⟩) (wantedF1 rfl rfl rfl rfl) (fun hg _ => (litF (x_neI rfl rfl) (by decide))) ?_
  refine RT.takeP (v := .bool (false)) 31 rfl (by kernel_rfl) (.inr ⟨hb_4, trivial⟩) (fun _ => (x_orF rfl rfl rfl)) ?_
  refine RT.done (by kernel_rfl) ?_
  refine Run.condF rfl ?_
  refine Run.skip ?_
  refine Run.inBlock ?_
  refine Run.region ?_
  refine RL.val (litI (c := 2) (x_add rfl rfl (by decide) (by decide)) (by decide)) ?_
  refine RL.val (x_moveI rfl) ?_
  refine RL.nil ?_
  refine Run.inLoop ?_
  refine Run.seq ?_
  refine Run.region ?_
  refine RL.val (litF (x_ltI rfl rfl) (by decide)) ?_
  refine RL.nil ?_
  refine Run.seq ?_
  refine Run.condF rfl ?_
  refine Run.exit rfl ?_
  refine Run.seq ?_
  refine Run.region ?_
  refine RL.st rfl <| St1.call (vals := []) en17 rfl (awake16 _) ?_
  rintro _ w_60 ⟨rfl, K_61⟩
  replace hb_4 := hb_4.ext K_61
  replace hb_9 := hb_9.ext K_61
  replace ho_15 := ho_15.ext K_61
  replace K0 := K0.ext K_61
  refine RL.val (x_assignB rfl) ?_
  refine RL.nil ?_
  refine Run.ret1 (v := .bool (true)) Try.func7 rfl rfl ?_
  exact ⟨_, rfl, rfl, K0⟩

end Go.Proofs.Ytlediffjclploaa
