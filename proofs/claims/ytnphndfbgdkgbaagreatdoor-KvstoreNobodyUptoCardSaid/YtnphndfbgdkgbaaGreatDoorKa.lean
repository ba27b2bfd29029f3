/-
  Layer 9: a store that no call made.
-/
import Derived.Test.YtnphndfbgdkgbaaGreatDoorRows
import Derived.Test.YtnphndfbgdkgbaaGreatDoorYg
import Derived.Test.YtnphndfbgdkgbaaGreatDoorDefer
namespace Go.Proofs.YtnphndfbgdkgbaaGreatDoor
attribute [local irreducible] St1 RL RA RT RT1 Run
attribute [local irreducible] crcN crcL crcS crcB numL leL unfR nameS segsL sortZ segI segO hasP restP
attribute [local irreducible] readAll mayP frameB openP appendP
abbrev muLink : Go.Conc.Locks.MuLink := { lock := 50, unlock := 20, ilock := 96, iunlock := 51, lockSlow := 144, unlockSlow := 100, disable := 98, enable := 101, acquire := 143, relMerge := 97, cas32 := 142, add32 := 99, tMutex := 29, tIMutex := 27, tPMutex := 104, tPIMutex := 156, tPI32 := 160, tUP := 158, tNoCopy := 24, tU32 := 25 }
theorem muLib : Go.Conc.Locks.MuLib Tryz.prog muLink :=
  ⟨Tryz.func50, Tryz.func20, Tryz.func96, Tryz.func51, Tryz.func98, Tryz.func101, Tryz.func143, Tryz.func97, Tryz.func142, Tryz.func99, Tryz.underlying27, Tryz.runUnderlying27, Tryz.sizeOf27, Tryz.isAgg27, Tryz.zeroValue27, Tryz.underlying29, Tryz.runUnderlying29, Tryz.sizeOf29, Tryz.isAgg29, Tryz.zeroValue29, Tryz.underlying104, Tryz.runUnderlying104, Tryz.sizeOf104, Tryz.isAgg104, Tryz.zeroValue104, Tryz.underlying156, Tryz.runUnderlying156, Tryz.sizeOf156, Tryz.isAgg156, Tryz.zeroValue156, Tryz.underlying160, Tryz.runUnderlying160, Tryz.sizeOf160, Tryz.isAgg160, Tryz.zeroValue160, Tryz.underlying158, Tryz.runUnderlying158, Tryz.sizeOf158, Tryz.isAgg158, Tryz.zeroValue158, Tryz.underlying24, Tryz.runUnderlying24, Tryz.sizeOf24, Tryz.isAgg24, Tryz.zeroValue24, Tryz.underlying21, Tryz.runUnderlying21, Tryz.sizeOf21, Tryz.isAgg21, Tryz.zeroValue21, (by kernel_rfl)⟩

theorem ty29 : Ty Tryz.prog 29 2 8 (.agg #[.int .i32 (0), .int .u32 (0)]) true := ty_of (by kernel_rfl) (by kernel_rfl)
theorem ty30 : Ty Tryz.prog 30 1 8 (.pointer none) false := ty_of (by kernel_rfl) (by kernel_rfl)
theorem ty43 : Ty Tryz.prog 43 3 72 (.agg #[.slice (none) (0) (0), .slice (none) (0) (0), .slice (none) (0) (0)]) true := ty_of (by kernel_rfl) (by kernel_rfl)
theorem en19 : Enters Tryz.prog 19 := enters_of Tryz.func19 rfl (by kernel_rfl)
theorem en20 : Enters Tryz.prog 20 := enters_of Tryz.func20 rfl (by kernel_rfl)
theorem en50 : Enters Tryz.prog 50 := enters_of Tryz.func50 rfl (by kernel_rfl)

set_option maxRecDepth 100000 in
set_option maxHeartbeats 4000000 in
theorem locked_nil  (w : World) :
    Calls Tryz.prog 19 #[.pointer none] w (Ret (fun v w' => v = .bool (false) ∧ Ext w w')) := by
  refine calls_run (n := 18) Tryz.func19 rfl rfl rfl ?_
  refine Run.seq ?_
  refine Run.region ?_
  refine RL.val (x_assignB rfl) ?_
  refine RL.nil ?_
  refine Run.seq ?_
  refine Run.seq ?_
  refine Run.region ?_
  refine RL.val (x_moveP rfl) ?_
  refine RL.val (litT (x_ptrNil Tryz.underlying22 rfl rfl) rfl) ?_
  refine RL.nil ?_
  refine Run.condT rfl ?_
  refine Run.seq ?_
  refine Run.region ?_
  refine RL.val (x_assignB rfl) ?_
  refine RL.nil ?_
  refine Run.ret1 (v := .bool (false)) Tryz.func19 rfl rfl ?_
  exact ⟨_, rfl, rfl, (Keeps.refl _ w)⟩

set_option maxRecDepth 100000 in
set_option maxHeartbeats 4000000 in
theorem locked_zero (b : Nat)  (w : World) (hb : Blk w b [.int .i32 (0), .int .u32 (0), .pointer none, .int .i64 (0), .map none, .map none, .map none] 35) :
    Calls Tryz.prog 19 #[.pointer (some ⟨b, 0, none⟩)] w (Ret (fun v w' => v = .bool (false) ∧ Blk w' b [.int .i32 (0), .int .u32 (0), .pointer none, .int .i64 (0), .map none, .map none, .map none] 35 ∧ Keeps (one b) w w')) := by
  refine calls_run (n := 18) Tryz.func19 rfl rfl rfl ?_
  refine Run.seq ?_
  refine Run.region ?_
  refine RL.val (x_assignB rfl) ?_
  refine RL.nil ?_
  refine Run.seq ?_
  refine Run.seq ?_
  refine Run.region ?_
  refine RL.val (x_moveP rfl) ?_
  refine RL.val (litF (x_ptrNil Tryz.underlying22 rfl rfl) rfl) ?_
  refine RL.nil ?_
  refine Run.condF rfl ?_
  refine Run.skip ?_
  refine Run.seq ?_
  refine Run.region ?_
  refine RL.val (x_moveP rfl) ?_
  refine RL.val (x_nilCheck rfl) ?_
  refine RL.val (x_fld (o' := 0) Tryz.underlying35 rfl ty29 rfl rfl rfl) ?_
  refine RL.st rfl <| St1.call (vals := [.pointer (some ⟨b, 0, none⟩)]) en50 rfl (lockB muLib hb) ?_
  rintro _ w_1 ⟨rfl, hb_2, K_3⟩
  have K0 := (Keeps.refl (one b) w).trans K_3 (fun x _ hx => by simp only [one] at hx; subst hx; exact rfl)
  replace hb : Blk w_1 b [.int .i32 (1), .int .u32 (0), .pointer none, .int .i64 (0), .map none, .map none, .map none] 35 := hb_2
  clear hb_2
  refine RL.nil ?_
  refine Run.seq ?_
  refine Run.seq ?_
  refine Run.region ?_
  refine RL.val (x_moveP rfl) ?_
  refine RL.val (x_nilCheck rfl) ?_
  refine RL.val (x_fld (o' := 2) Tryz.underlying35 rfl ty30 rfl rfl rfl) ?_
  refine RL.val (x_ld (v := .pointer none) ty30 rfl rfl (hb.cl.field (i := 2) rfl)) ?_
  refine RL.val (litT (x_ptrNil Tryz.underlying30 rfl rfl) rfl) ?_
  refine RL.nil ?_
  refine Run.condT rfl ?_
  refine Run.seq ?_
  refine Run.region ?_
  refine RL.val (x_moveP rfl) ?_
  refine RL.val (x_nilCheck rfl) ?_
  refine RL.val (x_fld (o' := 0) Tryz.underlying35 rfl ty29 rfl rfl rfl) ?_
  refine RL.st rfl <| St1.call (vals := [.pointer (some ⟨b, 0, none⟩)]) en20 rfl (unlockB muLib hb) ?_
  rintro _ w_4 ⟨rfl, hb_5, K_6⟩
  replace K0 := K0.trans K_6 (fun x _ hx => by simp only [one] at hx; subst hx; exact rfl)
  replace hb : Blk w_4 b [.int .i32 (0), .int .u32 (0), .pointer none, .int .i64 (0), .map none, .map none, .map none] 35 := hb_5
  clear hb_5
  refine RL.nil ?_
  refine Run.seq ?_
  refine Run.region ?_
  refine RL.val (x_assignB rfl) ?_
  refine RL.nil ?_
  refine Run.ret1 (v := .bool (false)) Tryz.func19 rfl rfl ?_
  exact ⟨_, rfl, rfl, hb, K0⟩

set_option maxRecDepth 100000 in
set_option maxHeartbeats 4000000 in
theorem Get_nil (s0 : ByteArray) (w : World) :
    Calls Tryz.prog 4 #[.pointer none, .string (s0)] w (Ret (fun v w' => v = .tuple #[.agg #[.slice (none) (0) (0), .slice (none) (0) (0), .slice (none) (0) (0)], .int .i64 (8)] ∧ Ext w w')) := by
  refine calls_run (n := 29) Tryz.func4 rfl rfl rfl ?_
  refine Run.seq ?_
  refine Run.region ?_
  refine RL.st rfl <| St1.alloc ty43 ?_
  intro b_1 w_2 hl_5 hb_4 K_3
  replace hb_4 : Blk w_2 b_1 [.slice (none) (0) (0), .slice (none) (0) (0), .slice (none) (0) (0)] 43 := hb_4
  have : w.heap.size ≤ b_1 := hl_5
  clear hl_5
  have K0 := (K_3 : Ext w _)
  refine RL.val (x_assignI rfl) ?_
  refine RL.nil ?_
  refine Run.seq ?_
  refine Run.seq ?_
  refine Run.region ?_
  refine RL.val (x_moveP rfl) ?_
  refine RL.st rfl <| St1.call (vals := [.pointer none]) en19 rfl (locked_nil  _) ?_
  rintro _ w_6 ⟨rfl, K_7⟩
  replace hb_4 := hb_4.ext K_7
  replace K0 := K0.ext K_7
  refine RL.val (x_not (b := false) rfl) ?_
  refine RL.nil ?_
  refine Run.condT rfl ?_
  refine Run.seq ?_
  refine Run.region ?_
  refine RL.val (x_build (cells := #[.slice (none) (0) (0), .slice (none) (0) (0), .slice (none) (0) (0)]) (by kernel_rfl)) ?_
  refine RL.st rfl <| St1.store (v := .agg #[.slice (none) (0) (0), .slice (none) (0) (0), .slice (none) (0) (0)]) ty43 rfl rfl rfl (by simp [Value.cells, Value.oneCell']) hb_4 (by simp) ?_
  intro w_8 hb_4_ K_9
  have hb_4' : Blk w_8 b_1 [.slice (none) (0) (0), .slice (none) (0) (0), .slice (none) (0) (0)] 43 := hb_4_
  clear hb_4_
  replace K0 := K0.new K_9 (fun x hx => by simp only [one] at hx; omega)
  replace hb_4 := hb_4'
  clear hb_4'
  refine RL.val (x_assignI rfl) ?_
  refine RL.nil ?_
  refine Run.retCT (x := .int .i64 (8)) (cs := #[.slice (none) (0) (0), .slice (none) (0) (0), .slice (none) (0) (0)]) Tryz.func4 rfl ty43 rfl rfl hb_4.cl rfl ?_
  exact ⟨_, rfl, rfl, K0⟩

set_option maxRecDepth 100000 in
set_option maxHeartbeats 4000000 in
theorem Get_zero (b : Nat) (s0 : ByteArray) (w : World) (hb : Blk w b [.int .i32 (0), .int .u32 (0), .pointer none, .int .i64 (0), .map none, .map none, .map none] 35) :
    Calls Tryz.prog 4 #[.pointer (some ⟨b, 0, none⟩), .string (s0)] w (Ret (fun v w' => v = .tuple #[.agg #[.slice (none) (0) (0), .slice (none) (0) (0), .slice (none) (0) (0)], .int .i64 (8)] ∧ Blk w' b [.int .i32 (0), .int .u32 (0), .pointer none, .int .i64 (0), .map none, .map none, .map none] 35 ∧ Keeps (one b) w w')) := by
  refine calls_run (n := 29) Tryz.func4 rfl rfl rfl ?_
  refine Run.seq ?_
  refine Run.region ?_
  refine RL.st rfl <| St1.alloc ty43 ?_
  intro b_1 w_2 hl_5 hb_4 K_3
  replace hb_4 : Blk w_2 b_1 [.slice (none) (0) (0), .slice (none) (0) (0), .slice (none) (0) (0)] 43 := hb_4
  have ne_6 : b < b_1 := Nat.lt_of_lt_of_le hb.lt hl_5
  have : w.heap.size ≤ b_1 := hl_5
  clear hl_5
  replace hb := hb.ext K_3
  have K0 := (K_3 : Ext w _).to (S := (one b))
  refine RL.val (x_assignI rfl) ?_
  refine RL.nil ?_
  refine Run.seq ?_
  refine Run.seq ?_
  refine Run.region ?_
  refine RL.val (x_moveP rfl) ?_
  refine RL.st rfl <| St1.call (vals := [.pointer (some ⟨b, 0, none⟩)]) en19 rfl (locked_zero _  _ hb) ?_
  rintro _ w_7 ⟨rfl, hb_8, K_9⟩
  replace hb_4 := hb_4.keep K_9 (by simp only [one]; omega)
  replace K0 := K0.trans K_9 (fun x _ hx => by simp only [one] at hx; subst hx; exact rfl)
  replace hb := hb_8
  clear hb_8
  refine RL.val (x_not (b := false) rfl) ?_
  refine RL.nil ?_
  refine Run.condT rfl ?_
  refine Run.seq ?_
  refine Run.region ?_
  refine RL.val (x_build (cells := #[.slice (none) (0) (0), .slice (none) (0) (0), .slice (none) (0) (0)]) (by kernel_rfl)) ?_
  refine RL.st rfl <| St1.store (v := .agg #[.slice (none) (0) (0), .slice (none) (0) (0), .slice (none) (0) (0)]) ty43 rfl rfl rfl (by simp [Value.cells, Value.oneCell']) hb_4 (by simp) ?_
  intro w_10 hb_4_ K_11
  have hb_4' : Blk w_10 b_1 [.slice (none) (0) (0), .slice (none) (0) (0), .slice (none) (0) (0)] 43 := hb_4_
  clear hb_4_
  replace hb := hb.keep K_11 (by simp only [one]; omega)
  replace K0 := K0.trans K_11 (fun x hlt hx => absurd hlt (by simp only [one] at hx; omega))
  replace hb_4 := hb_4'
  clear hb_4'
  refine RL.val (x_assignI rfl) ?_
  refine RL.nil ?_
  refine Run.retCT (x := .int .i64 (8)) (cs := #[.slice (none) (0) (0), .slice (none) (0) (0), .slice (none) (0) (0)]) Tryz.func4 rfl ty43 rfl rfl hb_4.cl rfl ?_
  exact ⟨_, rfl, rfl, hb, K0⟩

set_option maxRecDepth 100000 in
set_option maxHeartbeats 4000000 in
theorem Put_nil (s0 : ByteArray) (w : World) :
    Calls Tryz.prog 5 #[.pointer none, .string (s0), .agg #[.slice (none) (0) (0), .slice (none) (0) (0), .slice (none) (0) (0)]] w (Ret (fun v w' => v = .tuple #[.agg #[.slice (none) (0) (0), .slice (none) (0) (0), .slice (none) (0) (0)], .int .i64 (8)] ∧ Ext w w')) := by
  refine calls_run (n := 85) Tryz.func5 rfl rfl rfl ?_
  refine Run.seq ?_
  refine Run.region ?_
  refine RL.st rfl <| St1.box (v := .agg #[.slice (none) (0) (0), .slice (none) (0) (0), .slice (none) (0) (0)]) rfl ?_
  intro b_1 w_2 hl_5 hb_4 K_3
  replace hb_4 : Blk w_2 b_1 [.slice (none) (0) (0), .slice (none) (0) (0), .slice (none) (0) (0)] 43 := hb_4
  have : w.heap.size ≤ b_1 := hl_5
  clear hl_5
  have K0 := (K_3 : Ext w _)
  refine RL.st rfl <| St1.alloc ty43 ?_
  intro b_6 w_7 hl_10 hb_9 K_8
  replace hb_9 : Blk w_7 b_6 [.slice (none) (0) (0), .slice (none) (0) (0), .slice (none) (0) (0)] 43 := hb_9
  have ne_11 : b_1 < b_6 := Nat.lt_of_lt_of_le hb_4.lt hl_10
  have : w.heap.size ≤ b_6 := Nat.le_trans K0.size hl_10
  clear hl_10
  replace hb_4 := hb_4.ext K_8
  replace K0 := K0.ext K_8
  refine RL.val (x_assignI rfl) ?_
  refine RL.nil ?_
  refine Run.seq ?_
  refine Run.seq ?_
  refine Run.region ?_
  refine RL.val (x_moveP rfl) ?_
  refine RL.st rfl <| St1.call (vals := [.pointer none]) en19 rfl (locked_nil  _) ?_
  rintro _ w_12 ⟨rfl, K_13⟩
  replace hb_4 := hb_4.ext K_13
  replace hb_9 := hb_9.ext K_13
  replace K0 := K0.ext K_13
  refine RL.val (x_not (b := false) rfl) ?_
  refine RL.nil ?_
  refine Run.condT rfl ?_
  refine Run.seq ?_
  refine Run.region ?_
  refine RL.val (x_build (cells := #[.slice (none) (0) (0), .slice (none) (0) (0), .slice (none) (0) (0)]) (by kernel_rfl)) ?_
  refine RL.st rfl <| St1.store (v := .agg #[.slice (none) (0) (0), .slice (none) (0) (0), .slice (none) (0) (0)]) ty43 rfl rfl rfl (by simp [Value.cells, Value.oneCell']) hb_9 (by simp) ?_
  intro w_14 hb_9_ K_15
  have hb_9' : Blk w_14 b_6 [.slice (none) (0) (0), .slice (none) (0) (0), .slice (none) (0) (0)] 43 := hb_9_
  clear hb_9_
  replace hb_4 := hb_4.keep K_15 (by simp only [one]; omega)
  replace K0 := K0.new K_15 (fun x hx => by simp only [one] at hx; omega)
  replace hb_9 := hb_9'
  clear hb_9'
  refine RL.val (x_assignI rfl) ?_
  refine RL.nil ?_
  refine Run.retCT (x := .int .i64 (8)) (cs := #[.slice (none) (0) (0), .slice (none) (0) (0), .slice (none) (0) (0)]) Tryz.func5 rfl ty43 rfl rfl hb_9.cl rfl ?_
  exact ⟨_, rfl, rfl, K0⟩

set_option maxRecDepth 100000 in
set_option maxHeartbeats 4000000 in
theorem Put_zero (b : Nat) (s0 : ByteArray) (w : World) (hb : Blk w b [.int .i32 (0), .int .u32 (0), .pointer none, .int .i64 (0), .map none, .map none, .map none] 35) :
    Calls Tryz.prog 5 #[.pointer (some ⟨b, 0, none⟩), .string (s0), .agg #[.slice (none) (0) (0), .slice (none) (0) (0), .slice (none) (0) (0)]] w (Ret (fun v w' => v = .tuple #[.agg #[.slice (none) (0) (0), .slice (none) (0) (0), .slice (none) (0) (0)], .int .i64 (8)] ∧ Blk w' b [.int .i32 (0), .int .u32 (0), .pointer none, .int .i64 (0), .map none, .map none, .map none] 35 ∧ Keeps (one b) w w')) := by
  refine calls_run (n := 85) Tryz.func5 rfl rfl rfl ?_
  refine Run.seq ?_
  refine Run.region ?_
  refine RL.st rfl <| St1.box (v := .agg #[.slice (none) (0) (0), .slice (none) (0) (0), .slice (none) (0) (0)]) rfl ?_
  intro b_1 w_2 hl_5 hb_4 K_3
  replace hb_4 : Blk w_2 b_1 [.slice (none) (0) (0), .slice (none) (0) (0), .slice (none) (0) (0)] 43 := hb_4
  have ne_6 : b < b_1 := Nat.lt_of_lt_of_le hb.lt hl_5
  have : w.heap.size ≤ b_1 := hl_5
  clear hl_5
  replace hb := hb.ext K_3
  have K0 := (K_3 : Ext w _).to (S := (one b))
  refine RL.st rfl <| St1.alloc ty43 ?_
  intro b_7 w_8 hl_11 hb_10 K_9
  replace hb_10 : Blk w_8 b_7 [.slice (none) (0) (0), .slice (none) (0) (0), .slice (none) (0) (0)] 43 := hb_10
  have ne_12 : b < b_7 := Nat.lt_of_lt_of_le hb.lt hl_11
  have ne_13 : b_1 < b_7 := Nat.lt_of_lt_of_le hb_4.lt hl_11
  have : w.heap.size ≤ b_7 := Nat.le_trans K0.size hl_11
  clear hl_11
  replace hb := hb.ext K_9
  replace hb_4 := hb_4.ext K_9
  replace K0 := K0.ext K_9
  refine RL.val (x_assignI rfl) ?_
  refine RL.nil ?_
  refine Run.seq ?_
  refine Run.seq ?_
  refine Run.region ?_
  refine RL.val (x_moveP rfl) ?_
  refine RL.st rfl <| St1.call (vals := [.pointer (some ⟨b, 0, none⟩)]) en19 rfl (locked_zero _  _ hb) ?_
  rintro _ w_14 ⟨rfl, hb_15, K_16⟩
  replace hb_4 := hb_4.keep K_16 (by simp only [one]; omega)
  replace hb_10 := hb_10.keep K_16 (by simp only [one]; omega)
  replace K0 := K0.trans K_16 (fun x _ hx => by simp only [one] at hx; subst hx; exact rfl)
  replace hb := hb_15
  clear hb_15
  refine RL.val (x_not (b := false) rfl) ?_
  refine RL.nil ?_
  refine Run.condT rfl ?_
  refine Run.seq ?_
  refine Run.region ?_
  refine RL.val (x_build (cells := #[.slice (none) (0) (0), .slice (none) (0) (0), .slice (none) (0) (0)]) (by kernel_rfl)) ?_
  refine RL.st rfl <| St1.store (v := .agg #[.slice (none) (0) (0), .slice (none) (0) (0), .slice (none) (0) (0)]) ty43 rfl rfl rfl (by simp [Value.cells, Value.oneCell']) hb_10 (by simp) ?_
  intro w_17 hb_10_ K_18
  have hb_10' : Blk w_17 b_7 [.slice (none) (0) (0), .slice (none) (0) (0), .slice (none) (0) (0)] 43 := hb_10_
  clear hb_10_
  replace hb := hb.keep K_18 (by simp only [one]; omega)
  replace hb_4 := hb_4.keep K_18 (by simp only [one]; omega)
  replace K0 := K0.trans K_18 (fun x hlt hx => absurd hlt (by simp only [one] at hx; omega))
  replace hb_10 := hb_10'
  clear hb_10'
  refine RL.val (x_assignI rfl) ?_
  refine RL.nil ?_
  refine Run.retCT (x := .int .i64 (8)) (cs := #[.slice (none) (0) (0), .slice (none) (0) (0), .slice (none) (0) (0)]) Tryz.func5 rfl ty43 rfl rfl hb_10.cl rfl ?_
  exact ⟨_, rfl, rfl, hb, K0⟩

set_option maxRecDepth 100000 in
set_option maxHeartbeats 4000000 in
theorem Clean_nil (s0 : ByteArray) (w : World) :
    Calls Tryz.prog 6 #[.pointer none, .string (s0), .agg #[.slice (none) (0) (0), .slice (none) (0) (0), .slice (none) (0) (0)]] w (Ret (fun v w' => v = .tuple #[.agg #[.slice (none) (0) (0), .slice (none) (0) (0), .slice (none) (0) (0)], .int .i64 (8)] ∧ Ext w w')) := by
  refine calls_run (n := 32) Tryz.func6 rfl rfl rfl ?_
  refine Run.seq ?_
  refine Run.region ?_
  refine RL.st rfl <| St1.box (v := .agg #[.slice (none) (0) (0), .slice (none) (0) (0), .slice (none) (0) (0)]) rfl ?_
  intro b_1 w_2 hl_5 hb_4 K_3
  replace hb_4 : Blk w_2 b_1 [.slice (none) (0) (0), .slice (none) (0) (0), .slice (none) (0) (0)] 43 := hb_4
  have : w.heap.size ≤ b_1 := hl_5
  clear hl_5
  have K0 := (K_3 : Ext w _)
  refine RL.st rfl <| St1.alloc ty43 ?_
  intro b_6 w_7 hl_10 hb_9 K_8
  replace hb_9 : Blk w_7 b_6 [.slice (none) (0) (0), .slice (none) (0) (0), .slice (none) (0) (0)] 43 := hb_9
  have ne_11 : b_1 < b_6 := Nat.lt_of_lt_of_le hb_4.lt hl_10
  have : w.heap.size ≤ b_6 := Nat.le_trans K0.size hl_10
  clear hl_10
  replace hb_4 := hb_4.ext K_8
  replace K0 := K0.ext K_8
  refine RL.val (x_assignI rfl) ?_
  refine RL.nil ?_
  refine Run.seq ?_
  refine Run.seq ?_
  refine Run.region ?_
  refine RL.val (x_moveP rfl) ?_
  refine RL.st rfl <| St1.call (vals := [.pointer none]) en19 rfl (locked_nil  _) ?_
  rintro _ w_12 ⟨rfl, K_13⟩
  replace hb_4 := hb_4.ext K_13
  replace hb_9 := hb_9.ext K_13
  replace K0 := K0.ext K_13
  refine RL.val (x_not (b := false) rfl) ?_
  refine RL.nil ?_
  refine Run.condT rfl ?_
  refine Run.seq ?_
  refine Run.region ?_
  refine RL.val (x_build (cells := #[.slice (none) (0) (0), .slice (none) (0) (0), .slice (none) (0) (0)]) (by kernel_rfl)) ?_
  refine RL.st rfl <| St1.store (v := .agg #[.slice (none) (0) (0), .slice (none) (0) (0), .slice (none) (0) (0)]) ty43 rfl rfl rfl (by simp [Value.cells, Value.oneCell']) hb_9 (by simp) ?_
  intro w_14 hb_9_ K_15
  have hb_9' : Blk w_14 b_6 [.slice (none) (0) (0), .slice (none) (0) (0), .slice (none) (0) (0)] 43 := hb_9_
  clear hb_9_
  replace hb_4 := hb_4.keep K_15 (by simp only [one]; omega)
  replace K0 := K0.new K_15 (fun x hx => by simp only [one] at hx; omega)
  replace hb_9 := hb_9'
  clear hb_9'
  refine RL.val (x_assignI rfl) ?_
  refine RL.nil ?_
  refine Run.retCT (x := .int .i64 (8)) (cs := #[.slice (none) (0) (0), .slice (none) (0) (0), .slice (none) (0) (0)]) Tryz.func6 rfl ty43 rfl rfl hb_9.cl rfl ?_
  exact ⟨_, rfl, rfl, K0⟩

set_option maxRecDepth 100000 in
set_option maxHeartbeats 4000000 in
theorem Clean_zero (b : Nat) (s0 : ByteArray) (w : World) (hb : Blk w b [.int .i32 (0), .int .u32 (0), .pointer none, .int .i64 (0), .map none, .map none, .map none] 35) :
    Calls Tryz.prog 6 #[.pointer (some ⟨b, 0, none⟩), .string (s0), .agg #[.slice (none) (0) (0), .slice (none) (0) (0), .slice (none) (0) (0)]] w (Ret (fun v w' => v = .tuple #[.agg #[.slice (none) (0) (0), .slice (none) (0) (0), .slice (none) (0) (0)], .int .i64 (8)] ∧ Blk w' b [.int .i32 (0), .int .u32 (0), .pointer none, .int .i64 (0), .map none, .map none, .map none] 35 ∧ Keeps (one b) w w')) := by
  refine calls_run (n := 32) Tryz.func6 rfl rfl rfl ?_
  refine Run.seq ?_
  refine Run.region ?_
  refine RL.st rfl <| St1.box (v := .agg #[.slice (none) (0) (0), .slice (none) (0) (0), .slice (none) (0) (0)]) rfl ?_
  intro b_1 w_2 hl_5 hb_4 K_3
  replace hb_4 : Blk w_2 b_1 [.slice (none) (0) (0), .slice (none) (0) (0), .slice (none) (0) (0)] 43 := hb_4
  have ne_6 : b < b_1 := Nat.lt_of_lt_of_le hb.lt hl_5
  have : w.heap.size ≤ b_1 := hl_5
  clear hl_5
  replace hb := hb.ext K_3
  have K0 := (K_3 : Ext w _).to (S := (one b))
  refine RL.st rfl <| St1.alloc ty43 ?_
  intro b_7 w_8 hl_11 hb_10 K_9
  replace hb_10 : Blk w_8 b_7 [.slice (none) (0) (0), .slice (none) (0) (0), .slice (none) (0) (0)] 43 := hb_10
  have ne_12 : b < b_7 := Nat.lt_of_lt_of_le hb.lt hl_11
  have ne_13 : b_1 < b_7 := Nat.lt_of_lt_of_le hb_4.lt hl_11
  have : w.heap.size ≤ b_7 := Nat.le_trans K0.size hl_11
  clear hl_11
  replace hb := hb.ext K_9
  replace hb_4 := hb_4.ext K_9
  replace K0 := K0.ext K_9
  refine RL.val (x_assignI rfl) ?_
  refine RL.nil ?_
  refine Run.seq ?_
  refine Run.seq ?_
  refine Run.region ?_
  refine RL.val (x_moveP rfl) ?_
  refine RL.st rfl <| St1.call (vals := [.pointer (some ⟨b, 0, none⟩)]) en19 rfl (locked_zero _  _ hb) ?_
  rintro _ w_14 ⟨rfl, hb_15, K_16⟩
  replace hb_4 := hb_4.keep K_16 (by simp only [one]; omega)
  replace hb_10 := hb_10.keep K_16 (by simp only [one]; omega)
  replace K0 := K0.trans K_16 (fun x _ hx => by simp only [one] at hx; subst hx; exact rfl)
  replace hb := hb_15
  clear hb_15
  refine RL.val (x_not (b := false) rfl) ?_
  refine RL.nil ?_
  refine Run.condT rfl ?_
  refine Run.seq ?_
  refine Run.region ?_
  refine RL.val (x_build (cells := #[.slice (none) (0) (0), .slice (none) (0) (0), .slice (none) (0) (0)]) (by kernel_rfl)) ?_
  refine RL.st rfl <| St1.store (v := .agg #[.slice (none) (0) (0), .slice (none) (0) (0), .slice (none) (0) (0)]) ty43 rfl rfl rfl (by simp [Value.cells, Value.oneCell']) hb_10 (by simp) ?_
  intro w_17 hb_10_ K_18
  have hb_10' : Blk w_17 b_7 [.slice (none) (0) (0), .slice (none) (0) (0), .slice (none) (0) (0)] 43 := hb_10_
  clear hb_10_
  replace hb := hb.keep K_18 (by simp only [one]; omega)
  replace hb_4 := hb_4.keep K_18 (by simp only [one]; omega)
  replace K0 := K0.trans K_18 (fun x hlt hx => absurd hlt (by simp only [one] at hx; omega))
  replace hb_10 := hb_10'
  clear hb_10'
  refine RL.val (x_assignI rfl) ?_
  refine RL.nil ?_
  refine Run.retCT (x := .int .i64 (8)) (cs := #[.slice (none) (0) (0), .slice (none) (0) (0), .slice (none) (0) (0)]) Tryz.func6 rfl ty43 rfl rfl hb_10.cl rfl ?_
  exact ⟨_, rfl, rfl, hb, K0⟩

set_option maxRecDepth 100000 in
set_option maxHeartbeats 4000000 in
theorem Drop_nil (s0 : ByteArray) (w : World) :
    Calls Tryz.prog 7 #[.pointer none, .string (s0)] w (Ret (fun v w' => v = .int .i64 (8) ∧ Ext w w')) := by
  refine calls_run (n := 41) Tryz.func7 rfl rfl rfl ?_
  refine Run.seq ?_
  refine Run.region ?_
  refine RL.val (x_assignI rfl) ?_
  refine RL.nil ?_
  refine Run.seq ?_
  refine Run.seq ?_
  refine Run.region ?_
  refine RL.val (x_moveP rfl) ?_
  refine RL.st rfl <| St1.call (vals := [.pointer none]) en19 rfl (locked_nil  _) ?_
  rintro _ w_1 ⟨rfl, K_2⟩
  have K0 := (K_2 : Ext w _)
  refine RL.val (x_not (b := false) rfl) ?_
  refine RL.nil ?_
  refine Run.condT rfl ?_
  refine Run.seq ?_
  refine Run.region ?_
  refine RL.val (x_assignI rfl) ?_
  refine RL.nil ?_
  refine Run.ret1 (v := .int .i64 (8)) Tryz.func7 rfl rfl ?_
  exact ⟨_, rfl, rfl, K0⟩

set_option maxRecDepth 100000 in
set_option maxHeartbeats 4000000 in
theorem Drop_zero (b : Nat) (s0 : ByteArray) (w : World) (hb : Blk w b [.int .i32 (0), .int .u32 (0), .pointer none, .int .i64 (0), .map none, .map none, .map none] 35) :
    Calls Tryz.prog 7 #[.pointer (some ⟨b, 0, none⟩), .string (s0)] w (Ret (fun v w' => v = .int .i64 (8) ∧ Blk w' b [.int .i32 (0), .int .u32 (0), .pointer none, .int .i64 (0), .map none, .map none, .map none] 35 ∧ Keeps (one b) w w')) := by
  refine calls_run (n := 41) Tryz.func7 rfl rfl rfl ?_
  refine Run.seq ?_
  refine Run.region ?_
  refine RL.val (x_assignI rfl) ?_
  refine RL.nil ?_
  refine Run.seq ?_
  refine Run.seq ?_
  refine Run.region ?_
  refine RL.val (x_moveP rfl) ?_
  refine RL.st rfl <| St1.call (vals := [.pointer (some ⟨b, 0, none⟩)]) en19 rfl (locked_zero _  _ hb) ?_
  rintro _ w_1 ⟨rfl, hb_2, K_3⟩
  have K0 := (Keeps.refl (one b) w).trans K_3 (fun x _ hx => by simp only [one] at hx; subst hx; exact rfl)
  replace hb := hb_2
  clear hb_2
  refine RL.val (x_not (b := false) rfl) ?_
  refine RL.nil ?_
  refine Run.condT rfl ?_
  refine Run.seq ?_
  refine Run.region ?_
  refine RL.val (x_assignI rfl) ?_
  refine RL.nil ?_
  refine Run.ret1 (v := .int .i64 (8)) Tryz.func7 rfl rfl ?_
  exact ⟨_, rfl, rfl, hb, K0⟩

set_option maxRecDepth 100000 in
set_option maxHeartbeats 4000000 in
theorem Hint_nil (s0 : ByteArray) (n0 : Int) (w : World) :
    Calls Tryz.prog 8 #[.pointer none, .agg #[.int .i64 (n0), .string (s0)]] w (Ret (fun v w' => v = .int .i64 (8) ∧ Ext w w')) := by
  refine calls_run (n := 63) Tryz.func8 rfl rfl rfl ?_
  refine Run.seq ?_
  refine Run.region ?_
  refine RL.st rfl <| St1.box (v := .agg #[.int .i64 (n0), .string (s0)]) rfl ?_
  intro b_1 w_2 hl_5 hb_4 K_3
  replace hb_4 : Blk w_2 b_1 [.int .i64 (n0), .string (s0)] 51 := hb_4
  have : w.heap.size ≤ b_1 := hl_5
  clear hl_5
  have K0 := (K_3 : Ext w _)
  refine RL.val (x_assignI rfl) ?_
  refine RL.nil ?_
  refine Run.seq ?_
  refine Run.seq ?_
  refine Run.region ?_
  refine RL.val (x_moveP rfl) ?_
  refine RL.st rfl <| St1.call (vals := [.pointer none]) en19 rfl (locked_nil  _) ?_
  rintro _ w_6 ⟨rfl, K_7⟩
  replace hb_4 := hb_4.ext K_7
  replace K0 := K0.ext K_7
  refine RL.val (x_not (b := false) rfl) ?_
  refine RL.nil ?_
  refine Run.condT rfl ?_
  refine Run.seq ?_
  refine Run.region ?_
  refine RL.val (x_assignI rfl) ?_
  refine RL.nil ?_
  refine Run.ret1 (v := .int .i64 (8)) Tryz.func8 rfl rfl ?_
  exact ⟨_, rfl, rfl, K0⟩

set_option maxRecDepth 100000 in
set_option maxHeartbeats 4000000 in
theorem Hint_zero (b : Nat) (s0 : ByteArray) (n0 : Int) (w : World) (hb : Blk w b [.int .i32 (0), .int .u32 (0), .pointer none, .int .i64 (0), .map none, .map none, .map none] 35) :
    Calls Tryz.prog 8 #[.pointer (some ⟨b, 0, none⟩), .agg #[.int .i64 (n0), .string (s0)]] w (Ret (fun v w' => v = .int .i64 (8) ∧ Blk w' b [.int .i32 (0), .int .u32 (0), .pointer none, .int .i64 (0), .map none, .map none, .map none] 35 ∧ Keeps (one b) w w')) := by
  refine calls_run (n := 63) Tryz.func8 rfl rfl rfl ?_
  refine Run.seq ?_
  refine Run.region ?_
  refine RL.st rfl <| St1.box (v := .agg #[.int .i64 (n0), .string (s0)]) rfl ?_
  intro b_1 w_2 hl_5 hb_4 K_3
  replace hb_4 : Blk w_2 b_1 [.int .i64 (n0), .string (s0)] 51 := hb_4
  have ne_6 : b < b_1 := Nat.lt_of_lt_of_le hb.lt hl_5
  have : w.heap.size ≤ b_1 := hl_5
  clear hl_5
  replace hb := hb.ext K_3
  have K0 := (K_3 : Ext w _).to (S := (one b))
  refine RL.val (x_assignI rfl) ?_
  refine RL.nil ?_
  refine Run.seq ?_
  refine Run.seq ?_
  refine Run.region ?_
  refine RL.val (x_moveP rfl) ?_
  refine RL.st rfl <| St1.call (vals := [.pointer (some ⟨b, 0, none⟩)]) en19 rfl (locked_zero _  _ hb) ?_
  rintro _ w_7 ⟨rfl, hb_8, K_9⟩
  replace hb_4 := hb_4.keep K_9 (by simp only [one]; omega)
  replace K0 := K0.trans K_9 (fun x _ hx => by simp only [one] at hx; subst hx; exact rfl)
  replace hb := hb_8
  clear hb_8
  refine RL.val (x_not (b := false) rfl) ?_
  refine RL.nil ?_
  refine Run.condT rfl ?_
  refine Run.seq ?_
  refine Run.region ?_
  refine RL.val (x_assignI rfl) ?_
  refine RL.nil ?_
  refine Run.ret1 (v := .int .i64 (8)) Tryz.func8 rfl rfl ?_
  exact ⟨_, rfl, rfl, hb, K0⟩

set_option maxRecDepth 100000 in
set_option maxHeartbeats 4000000 in
theorem Unhint_nil (s0 : ByteArray) (n0 : Int) (w : World) :
    Calls Tryz.prog 9 #[.pointer none, .agg #[.int .i64 (n0), .string (s0)]] w (Ret (fun v w' => v = .int .i64 (8) ∧ Ext w w')) := by
  refine calls_run (n := 45) Tryz.func9 rfl rfl rfl ?_
  refine Run.seq ?_
  refine Run.region ?_
  refine RL.st rfl <| St1.box (v := .agg #[.int .i64 (n0), .string (s0)]) rfl ?_
  intro b_1 w_2 hl_5 hb_4 K_3
  replace hb_4 : Blk w_2 b_1 [.int .i64 (n0), .string (s0)] 51 := hb_4
  have : w.heap.size ≤ b_1 := hl_5
  clear hl_5
  have K0 := (K_3 : Ext w _)
  refine RL.val (x_assignI rfl) ?_
  refine RL.nil ?_
  refine Run.seq ?_
  refine Run.seq ?_
  refine Run.region ?_
  refine RL.val (x_moveP rfl) ?_
  refine RL.st rfl <| St1.call (vals := [.pointer none]) en19 rfl (locked_nil  _) ?_
  rintro _ w_6 ⟨rfl, K_7⟩
  replace hb_4 := hb_4.ext K_7
  replace K0 := K0.ext K_7
  refine RL.val (x_not (b := false) rfl) ?_
  refine RL.nil ?_
  refine Run.condT rfl ?_
  refine Run.seq ?_
  refine Run.region ?_
  refine RL.val (x_assignI rfl) ?_
  refine RL.nil ?_
  refine Run.ret1 (v := .int .i64 (8)) Tryz.func9 rfl rfl ?_
  exact ⟨_, rfl, rfl, K0⟩

set_option maxRecDepth 100000 in
set_option maxHeartbeats 4000000 in
theorem Unhint_zero (b : Nat) (s0 : ByteArray) (n0 : Int) (w : World) (hb : Blk w b [.int .i32 (0), .int .u32 (0), .pointer none, .int .i64 (0), .map none, .map none, .map none] 35) :
    Calls Tryz.prog 9 #[.pointer (some ⟨b, 0, none⟩), .agg #[.int .i64 (n0), .string (s0)]] w (Ret (fun v w' => v = .int .i64 (8) ∧ Blk w' b [.int .i32 (0), .int .u32 (0), .pointer none, .int .i64 (0), .map none, .map none, .map none] 35 ∧ Keeps (one b) w w')) := by
  refine calls_run (n := 45) Tryz.func9 rfl rfl rfl ?_
  refine Run.seq ?_
  refine Run.region ?_
  refine RL.st rfl <| St1.box (v := .agg #[.int .i64 (n0), .string (s0)]) rfl ?_
  intro b_1 w_2 hl_5 hb_4 K_3
  replace hb_4 : Blk w_2 b_1 [.int .i64 (n0), .string (s0)] 51 := hb_4
  have ne_6 : b < b_1 := Nat.lt_of_lt_of_le hb.lt hl_5
  have : w.heap.size ≤ b_1 := hl_5
  clear hl_5
  replace hb := hb.ext K_3
  have K0 := (K_3 : Ext w _).to (S := (one b))
  refine RL.val (x_assignI rfl) ?_
  refine RL.nil ?_
  refine Run.seq ?_
  refine Run.seq ?_
  refine Run.region ?_
  refine RL.val (x_moveP rfl) ?_
  refine RL.st rfl <| St1.call (vals := [.pointer (some ⟨b, 0, none⟩)]) en19 rfl (locked_zero _  _ hb) ?_
  rintro _ w_7 ⟨rfl, hb_8, K_9⟩
  replace hb_4 := hb_4.keep K_9 (by simp only [one]; omega)
  replace K0 := K0.trans K_9 (fun x _ hx => by simp only [one] at hx; subst hx; exact rfl)
  replace hb := hb_8
  clear hb_8
  refine RL.val (x_not (b := false) rfl) ?_
  refine RL.nil ?_
  refine Run.condT rfl ?_
  refine Run.seq ?_
  refine Run.region ?_
  refine RL.val (x_assignI rfl) ?_
  refine RL.nil ?_
  refine Run.ret1 (v := .int .i64 (8)) Tryz.func9 rfl rfl ?_
  exact ⟨_, rfl, rfl, hb, K0⟩

set_option maxRecDepth 100000 in
set_option maxHeartbeats 4000000 in
theorem Retire_nil (s0 : ByteArray) (w : World) :
    Calls Tryz.prog 10 #[.pointer none, .string (s0), .agg #[.int .i64 (0), .int .i64 (0), .int .i64 (0)]] w (Ret (fun v w' => v = .int .i64 (8) ∧ Ext w w')) := by
  refine calls_run (n := 68) Tryz.func10 rfl rfl rfl ?_
  refine Run.seq ?_
  refine Run.region ?_
  refine RL.st rfl <| St1.box (v := .agg #[.int .i64 (0), .int .i64 (0), .int .i64 (0)]) rfl ?_
  intro b_1 w_2 hl_5 hb_4 K_3
  replace hb_4 : Blk w_2 b_1 [.int .i64 (0), .int .i64 (0), .int .i64 (0)] 54 := hb_4
  have : w.heap.size ≤ b_1 := hl_5
  clear hl_5
  have K0 := (K_3 : Ext w _)
  refine RL.val (x_assignI rfl) ?_
  refine RL.nil ?_
  refine Run.seq ?_
  refine Run.seq ?_
  refine Run.region ?_
  refine RL.val (x_moveP rfl) ?_
  refine RL.st rfl <| St1.call (vals := [.pointer none]) en19 rfl (locked_nil  _) ?_
  rintro _ w_6 ⟨rfl, K_7⟩
  replace hb_4 := hb_4.ext K_7
  replace K0 := K0.ext K_7
  refine RL.val (x_not (b := false) rfl) ?_
  refine RL.nil ?_
  refine Run.condT rfl ?_
  refine Run.seq ?_
  refine Run.region ?_
  refine RL.val (x_assignI rfl) ?_
  refine RL.nil ?_
  refine Run.ret1 (v := .int .i64 (8)) Tryz.func10 rfl rfl ?_
  exact ⟨_, rfl, rfl, K0⟩

set_option maxRecDepth 100000 in
set_option maxHeartbeats 4000000 in
theorem Retire_zero (b : Nat) (s0 : ByteArray) (w : World) (hb : Blk w b [.int .i32 (0), .int .u32 (0), .pointer none, .int .i64 (0), .map none, .map none, .map none] 35) :
    Calls Tryz.prog 10 #[.pointer (some ⟨b, 0, none⟩), .string (s0), .agg #[.int .i64 (0), .int .i64 (0), .int .i64 (0)]] w (Ret (fun v w' => v = .int .i64 (8) ∧ Blk w' b [.int .i32 (0), .int .u32 (0), .pointer none, .int .i64 (0), .map none, .map none, .map none] 35 ∧ Keeps (one b) w w')) := by
  refine calls_run (n := 68) Tryz.func10 rfl rfl rfl ?_
  refine Run.seq ?_
  refine Run.region ?_
  refine RL.st rfl <| St1.box (v := .agg #[.int .i64 (0), .int .i64 (0), .int .i64 (0)]) rfl ?_
  intro b_1 w_2 hl_5 hb_4 K_3
  replace hb_4 : Blk w_2 b_1 [.int .i64 (0), .int .i64 (0), .int .i64 (0)] 54 := hb_4
  have ne_6 : b < b_1 := Nat.lt_of_lt_of_le hb.lt hl_5
  have : w.heap.size ≤ b_1 := hl_5
  clear hl_5
  replace hb := hb.ext K_3
  have K0 := (K_3 : Ext w _).to (S := (one b))
  refine RL.val (x_assignI rfl) ?_
  refine RL.nil ?_
  refine Run.seq ?_
  refine Run.seq ?_
  refine Run.region ?_
  refine RL.val (x_moveP rfl) ?_
  refine RL.st rfl <| St1.call (vals := [.pointer (some ⟨b, 0, none⟩)]) en19 rfl (locked_zero _  _ hb) ?_
  rintro _ w_7 ⟨rfl, hb_8, K_9⟩
  replace hb_4 := hb_4.keep K_9 (by simp only [one]; omega)
  replace K0 := K0.trans K_9 (fun x _ hx => by simp only [one] at hx; subst hx; exact rfl)
  replace hb := hb_8
  clear hb_8
  refine RL.val (x_not (b := false) rfl) ?_
  refine RL.nil ?_
  refine Run.condT rfl ?_
  refine Run.seq ?_
  refine Run.region ?_
  refine RL.val (x_assignI rfl) ?_
  refine RL.nil ?_
  refine Run.ret1 (v := .int .i64 (8)) Tryz.func10 rfl rfl ?_
  exact ⟨_, rfl, rfl, hb, K0⟩

set_option maxRecDepth 100000 in
set_option maxHeartbeats 4000000 in
theorem Sync_nil  (w : World) :
    Calls Tryz.prog 11 #[.pointer none] w (Ret (fun v w' => v = .int .i64 (8) ∧ Ext w w')) := by
  refine calls_run (n := 14) Tryz.func11 rfl rfl rfl ?_
  refine Run.seq ?_
  refine Run.region ?_
  refine RL.val (x_assignI rfl) ?_
  refine RL.nil ?_
  refine Run.seq ?_
  refine Run.seq ?_
  refine Run.region ?_
  refine RL.val (x_moveP rfl) ?_
  refine RL.st rfl <| St1.call (vals := [.pointer none]) en19 rfl (locked_nil  _) ?_
  rintro _ w_1 ⟨rfl, K_2⟩
  have K0 := (K_2 : Ext w _)
  refine RL.val (x_not (b := false) rfl) ?_
  refine RL.nil ?_
  refine Run.condT rfl ?_
  refine Run.seq ?_
  refine Run.region ?_
  refine RL.val (x_assignI rfl) ?_
  refine RL.nil ?_
  refine Run.ret1 (v := .int .i64 (8)) Tryz.func11 rfl rfl ?_
  exact ⟨_, rfl, rfl, K0⟩

set_option maxRecDepth 100000 in
set_option maxHeartbeats 4000000 in
theorem Sync_zero (b : Nat)  (w : World) (hb : Blk w b [.int .i32 (0), .int .u32 (0), .pointer none, .int .i64 (0), .map none, .map none, .map none] 35) :
    Calls Tryz.prog 11 #[.pointer (some ⟨b, 0, none⟩)] w (Ret (fun v w' => v = .int .i64 (8) ∧ Blk w' b [.int .i32 (0), .int .u32 (0), .pointer none, .int .i64 (0), .map none, .map none, .map none] 35 ∧ Keeps (one b) w w')) := by
  refine calls_run (n := 14) Tryz.func11 rfl rfl rfl ?_
  refine Run.seq ?_
  refine Run.region ?_
  refine RL.val (x_assignI rfl) ?_
  refine RL.nil ?_
  refine Run.seq ?_
  refine Run.seq ?_
  refine Run.region ?_
  refine RL.val (x_moveP rfl) ?_
  refine RL.st rfl <| St1.call (vals := [.pointer (some ⟨b, 0, none⟩)]) en19 rfl (locked_zero _  _ hb) ?_
  rintro _ w_1 ⟨rfl, hb_2, K_3⟩
  have K0 := (Keeps.refl (one b) w).trans K_3 (fun x _ hx => by simp only [one] at hx; subst hx; exact rfl)
  replace hb := hb_2
  clear hb_2
  refine RL.val (x_not (b := false) rfl) ?_
  refine RL.nil ?_
  refine Run.condT rfl ?_
  refine Run.seq ?_
  refine Run.region ?_
  refine RL.val (x_assignI rfl) ?_
  refine RL.nil ?_
  refine Run.ret1 (v := .int .i64 (8)) Tryz.func11 rfl rfl ?_
  exact ⟨_, rfl, rfl, hb, K0⟩

set_option maxRecDepth 100000 in
set_option maxHeartbeats 4000000 in
theorem Compact_nil  (w : World) :
    Calls Tryz.prog 12 #[.pointer none] w (Ret (fun v w' => v = .int .i64 (8) ∧ Ext w w')) := by
  refine calls_run (n := 25) Tryz.func12 rfl rfl rfl ?_
  refine Run.seq ?_
  refine Run.region ?_
  refine RL.val (x_assignI rfl) ?_
  refine RL.nil ?_
  refine Run.seq ?_
  refine Run.seq ?_
  refine Run.region ?_
  refine RL.val (x_moveP rfl) ?_
  refine RL.st rfl <| St1.call (vals := [.pointer none]) en19 rfl (locked_nil  _) ?_
  rintro _ w_1 ⟨rfl, K_2⟩
  have K0 := (K_2 : Ext w _)
  refine RL.val (x_not (b := false) rfl) ?_
  refine RL.nil ?_
  refine Run.condT rfl ?_
  refine Run.seq ?_
  refine Run.region ?_
  refine RL.val (x_assignI rfl) ?_
  refine RL.nil ?_
  refine Run.ret1 (v := .int .i64 (8)) Tryz.func12 rfl rfl ?_
  exact ⟨_, rfl, rfl, K0⟩

set_option maxRecDepth 100000 in
set_option maxHeartbeats 4000000 in
theorem Compact_zero (b : Nat)  (w : World) (hb : Blk w b [.int .i32 (0), .int .u32 (0), .pointer none, .int .i64 (0), .map none, .map none, .map none] 35) :
    Calls Tryz.prog 12 #[.pointer (some ⟨b, 0, none⟩)] w (Ret (fun v w' => v = .int .i64 (8) ∧ Blk w' b [.int .i32 (0), .int .u32 (0), .pointer none, .int .i64 (0), .map none, .map none, .map none] 35 ∧ Keeps (one b) w w')) := by
  refine calls_run (n := 25) Tryz.func12 rfl rfl rfl ?_
  refine Run.seq ?_
  refine Run.region ?_
  refine RL.val (x_assignI rfl) ?_
  refine RL.nil ?_
  refine Run.seq ?_
  refine Run.seq ?_
  refine Run.region ?_
  refine RL.val (x_moveP rfl) ?_
  refine RL.st rfl <| St1.call (vals := [.pointer (some ⟨b, 0, none⟩)]) en19 rfl (locked_zero _  _ hb) ?_
  rintro _ w_1 ⟨rfl, hb_2, K_3⟩
  have K0 := (Keeps.refl (one b) w).trans K_3 (fun x _ hx => by simp only [one] at hx; subst hx; exact rfl)
  replace hb := hb_2
  clear hb_2
  refine RL.val (x_not (b := false) rfl) ?_
  refine RL.nil ?_
  refine Run.condT rfl ?_
  refine Run.seq ?_
  refine Run.region ?_
  refine RL.val (x_assignI rfl) ?_
  refine RL.nil ?_
  refine Run.ret1 (v := .int .i64 (8)) Tryz.func12 rfl rfl ?_
  exact ⟨_, rfl, rfl, hb, K0⟩

set_option maxRecDepth 100000 in
set_option maxHeartbeats 4000000 in
theorem Starts_nil  (w : World) :
    Calls Tryz.prog 13 #[.pointer none] w (Ret (fun v w' => v = .int .i64 (0) ∧ Ext w w')) := by
  refine calls_run (n := 13) Tryz.func13 rfl rfl rfl ?_
  refine Run.seq ?_
  refine Run.region ?_
  refine RL.val (x_assignI rfl) ?_
  refine RL.nil ?_
  refine Run.seq ?_
  refine Run.seq ?_
  refine Run.region ?_
  refine RL.val (x_moveP rfl) ?_
  refine RL.st rfl <| St1.call (vals := [.pointer none]) en19 rfl (locked_nil  _) ?_
  rintro _ w_1 ⟨rfl, K_2⟩
  have K0 := (K_2 : Ext w _)
  refine RL.val (x_not (b := false) rfl) ?_
  refine RL.nil ?_
  refine Run.condT rfl ?_
  refine Run.seq ?_
  refine Run.region ?_
  refine RL.val (x_assignI rfl) ?_
  refine RL.nil ?_
  refine Run.ret1 (v := .int .i64 (0)) Tryz.func13 rfl rfl ?_
  exact ⟨_, rfl, rfl, K0⟩

set_option maxRecDepth 100000 in
set_option maxHeartbeats 4000000 in
theorem Starts_zero (b : Nat)  (w : World) (hb : Blk w b [.int .i32 (0), .int .u32 (0), .pointer none, .int .i64 (0), .map none, .map none, .map none] 35) :
    Calls Tryz.prog 13 #[.pointer (some ⟨b, 0, none⟩)] w (Ret (fun v w' => v = .int .i64 (0) ∧ Blk w' b [.int .i32 (0), .int .u32 (0), .pointer none, .int .i64 (0), .map none, .map none, .map none] 35 ∧ Keeps (one b) w w')) := by
  refine calls_run (n := 13) Tryz.func13 rfl rfl rfl ?_
  refine Run.seq ?_
  refine Run.region ?_
  refine RL.val (x_assignI rfl) ?_
  refine RL.nil ?_
  refine Run.seq ?_
  refine Run.seq ?_
  refine Run.region ?_
  refine RL.val (x_moveP rfl) ?_
  refine RL.st rfl <| St1.call (vals := [.pointer (some ⟨b, 0, none⟩)]) en19 rfl (locked_zero _  _ hb) ?_
  rintro _ w_1 ⟨rfl, hb_2, K_3⟩
  have K0 := (Keeps.refl (one b) w).trans K_3 (fun x _ hx => by simp only [one] at hx; subst hx; exact rfl)
  replace hb := hb_2
  clear hb_2
  refine RL.val (x_not (b := false) rfl) ?_
  refine RL.nil ?_
  refine Run.condT rfl ?_
  refine Run.seq ?_
  refine Run.region ?_
  refine RL.val (x_assignI rfl) ?_
  refine RL.nil ?_
  refine Run.ret1 (v := .int .i64 (0)) Tryz.func13 rfl rfl ?_
  exact ⟨_, rfl, rfl, hb, K0⟩

set_option maxRecDepth 100000 in
set_option maxHeartbeats 4000000 in
theorem Bytes_nil  (w : World) :
    Calls Tryz.prog 14 #[.pointer none] w (Ret (fun v w' => v = .int .i64 (0) ∧ Ext w w')) := by
  refine calls_run (n := 14) Tryz.func14 rfl rfl rfl ?_
  refine Run.seq ?_
  refine Run.region ?_
  refine RL.val (x_assignI rfl) ?_
  refine RL.nil ?_
  refine Run.seq ?_
  refine Run.seq ?_
  refine Run.region ?_
  refine RL.val (x_moveP rfl) ?_
  refine RL.st rfl <| St1.call (vals := [.pointer none]) en19 rfl (locked_nil  _) ?_
  rintro _ w_1 ⟨rfl, K_2⟩
  have K0 := (K_2 : Ext w _)
  refine RL.val (x_not (b := false) rfl) ?_
  refine RL.nil ?_
  refine Run.condT rfl ?_
  refine Run.seq ?_
  refine Run.region ?_
  refine RL.val (x_assignI rfl) ?_
  refine RL.nil ?_
  refine Run.ret1 (v := .int .i64 (0)) Tryz.func14 rfl rfl ?_
  exact ⟨_, rfl, rfl, K0⟩

set_option maxRecDepth 100000 in
set_option maxHeartbeats 4000000 in
theorem Bytes_zero (b : Nat)  (w : World) (hb : Blk w b [.int .i32 (0), .int .u32 (0), .pointer none, .int .i64 (0), .map none, .map none, .map none] 35) :
    Calls Tryz.prog 14 #[.pointer (some ⟨b, 0, none⟩)] w (Ret (fun v w' => v = .int .i64 (0) ∧ Blk w' b [.int .i32 (0), .int .u32 (0), .pointer none, .int .i64 (0), .map none, .map none, .map none] 35 ∧ Keeps (one b) w w')) := by
  refine calls_run (n := 14) Tryz.func14 rfl rfl rfl ?_
  refine Run.seq ?_
  refine Run.region ?_
  refine RL.val (x_assignI rfl) ?_
  refine RL.nil ?_
  refine Run.seq ?_
  refine Run.seq ?_
  refine Run.region ?_
  refine RL.val (x_moveP rfl) ?_
  refine RL.st rfl <| St1.call (vals := [.pointer (some ⟨b, 0, none⟩)]) en19 rfl (locked_zero _  _ hb) ?_
  rintro _ w_1 ⟨rfl, hb_2, K_3⟩
  have K0 := (Keeps.refl (one b) w).trans K_3 (fun x _ hx => by simp only [one] at hx; subst hx; exact rfl)
  replace hb := hb_2
  clear hb_2
  refine RL.val (x_not (b := false) rfl) ?_
  refine RL.nil ?_
  refine Run.condT rfl ?_
  refine Run.seq ?_
  refine Run.region ?_
  refine RL.val (x_assignI rfl) ?_
  refine RL.nil ?_
  refine Run.ret1 (v := .int .i64 (0)) Tryz.func14 rfl rfl ?_
  exact ⟨_, rfl, rfl, hb, K0⟩

set_option maxRecDepth 100000 in
set_option maxHeartbeats 4000000 in
theorem Keys_nil  (w : World) :
    Calls Tryz.prog 15 #[.pointer none] w (Ret (fun v w' => v = .slice (none) (0) (0) ∧ Ext w w')) := by
  refine calls_run (n := 15) Tryz.func15 rfl rfl rfl ?_
  refine Run.seq ?_
  refine Run.region ?_
  refine RL.val (x_assignSl rfl) ?_
  refine RL.nil ?_
  refine Run.seq ?_
  refine Run.seq ?_
  refine Run.region ?_
  refine RL.val (x_moveP rfl) ?_
  refine RL.st rfl <| St1.call (vals := [.pointer none]) en19 rfl (locked_nil  _) ?_
  rintro _ w_1 ⟨rfl, K_2⟩
  have K0 := (K_2 : Ext w _)
  refine RL.val (x_not (b := false) rfl) ?_
  refine RL.nil ?_
  refine Run.condT rfl ?_
  refine Run.seq ?_
  refine Run.region ?_
  refine RL.val (x_assignSl rfl) ?_
  refine RL.nil ?_
  refine Run.ret1 (v := .slice (none) (0) (0)) Tryz.func15 rfl rfl ?_
  exact ⟨_, rfl, rfl, K0⟩

set_option maxRecDepth 100000 in
set_option maxHeartbeats 4000000 in
theorem Keys_zero (b : Nat)  (w : World) (hb : Blk w b [.int .i32 (0), .int .u32 (0), .pointer none, .int .i64 (0), .map none, .map none, .map none] 35) :
    Calls Tryz.prog 15 #[.pointer (some ⟨b, 0, none⟩)] w (Ret (fun v w' => v = .slice (none) (0) (0) ∧ Blk w' b [.int .i32 (0), .int .u32 (0), .pointer none, .int .i64 (0), .map none, .map none, .map none] 35 ∧ Keeps (one b) w w')) := by
  refine calls_run (n := 15) Tryz.func15 rfl rfl rfl ?_
  refine Run.seq ?_
  refine Run.region ?_
  refine RL.val (x_assignSl rfl) ?_
  refine RL.nil ?_
  refine Run.seq ?_
  refine Run.seq ?_
  refine Run.region ?_
  refine RL.val (x_moveP rfl) ?_
  refine RL.st rfl <| St1.call (vals := [.pointer (some ⟨b, 0, none⟩)]) en19 rfl (locked_zero _  _ hb) ?_
  rintro _ w_1 ⟨rfl, hb_2, K_3⟩
  have K0 := (Keeps.refl (one b) w).trans K_3 (fun x _ hx => by simp only [one] at hx; subst hx; exact rfl)
  replace hb := hb_2
  clear hb_2
  refine RL.val (x_not (b := false) rfl) ?_
  refine RL.nil ?_
  refine Run.condT rfl ?_
  refine Run.seq ?_
  refine Run.region ?_
  refine RL.val (x_assignSl rfl) ?_
  refine RL.nil ?_
  refine Run.ret1 (v := .slice (none) (0) (0)) Tryz.func15 rfl rfl ?_
  exact ⟨_, rfl, rfl, hb, K0⟩

set_option maxRecDepth 100000 in
set_option maxHeartbeats 4000000 in
theorem Hints_nil  (w : World) :
    Calls Tryz.prog 16 #[.pointer none] w (Ret (fun v w' => v = .slice (none) (0) (0) ∧ Ext w w')) := by
  refine calls_run (n := 11) Tryz.func16 rfl rfl rfl ?_
  refine Run.seq ?_
  refine Run.region ?_
  refine RL.val (x_assignSl rfl) ?_
  refine RL.nil ?_
  refine Run.seq ?_
  refine Run.seq ?_
  refine Run.region ?_
  refine RL.val (x_moveP rfl) ?_
  refine RL.st rfl <| St1.call (vals := [.pointer none]) en19 rfl (locked_nil  _) ?_
  rintro _ w_1 ⟨rfl, K_2⟩
  have K0 := (K_2 : Ext w _)
  refine RL.val (x_not (b := false) rfl) ?_
  refine RL.nil ?_
  refine Run.condT rfl ?_
  refine Run.seq ?_
  refine Run.region ?_
  refine RL.val (x_assignSl rfl) ?_
  refine RL.nil ?_
  refine Run.ret1 (v := .slice (none) (0) (0)) Tryz.func16 rfl rfl ?_
  exact ⟨_, rfl, rfl, K0⟩

set_option maxRecDepth 100000 in
set_option maxHeartbeats 4000000 in
theorem Hints_zero (b : Nat)  (w : World) (hb : Blk w b [.int .i32 (0), .int .u32 (0), .pointer none, .int .i64 (0), .map none, .map none, .map none] 35) :
    Calls Tryz.prog 16 #[.pointer (some ⟨b, 0, none⟩)] w (Ret (fun v w' => v = .slice (none) (0) (0) ∧ Blk w' b [.int .i32 (0), .int .u32 (0), .pointer none, .int .i64 (0), .map none, .map none, .map none] 35 ∧ Keeps (one b) w w')) := by
  refine calls_run (n := 11) Tryz.func16 rfl rfl rfl ?_
  refine Run.seq ?_
  refine Run.region ?_
  refine RL.val (x_assignSl rfl) ?_
  refine RL.nil ?_
  refine Run.seq ?_
  refine Run.seq ?_
  refine Run.region ?_
  refine RL.val (x_moveP rfl) ?_
  refine RL.st rfl <| St1.call (vals := [.pointer (some ⟨b, 0, none⟩)]) en19 rfl (locked_zero _  _ hb) ?_
  rintro _ w_1 ⟨rfl, hb_2, K_3⟩
  have K0 := (Keeps.refl (one b) w).trans K_3 (fun x _ hx => by simp only [one] at hx; subst hx; exact rfl)
  replace hb := hb_2
  clear hb_2
  refine RL.val (x_not (b := false) rfl) ?_
  refine RL.nil ?_
  refine Run.condT rfl ?_
  refine Run.seq ?_
  refine Run.region ?_
  refine RL.val (x_assignSl rfl) ?_
  refine RL.nil ?_
  refine Run.ret1 (v := .slice (none) (0) (0)) Tryz.func16 rfl rfl ?_
  exact ⟨_, rfl, rfl, hb, K0⟩

set_option maxRecDepth 100000 in
set_option maxHeartbeats 4000000 in
theorem Retired_nil (s0 : ByteArray) (w : World) :
    Calls Tryz.prog 17 #[.pointer none, .string (s0)] w (Ret (fun v w' => v = .slice (none) (0) (0) ∧ Ext w w')) := by
  refine calls_run (n := 18) Tryz.func17 rfl rfl rfl ?_
  refine Run.seq ?_
  refine Run.region ?_
  refine RL.val (x_assignSl rfl) ?_
  refine RL.nil ?_
  refine Run.seq ?_
  refine Run.seq ?_
  refine Run.region ?_
  refine RL.val (x_moveP rfl) ?_
  refine RL.st rfl <| St1.call (vals := [.pointer none]) en19 rfl (locked_nil  _) ?_
  rintro _ w_1 ⟨rfl, K_2⟩
  have K0 := (K_2 : Ext w _)
  refine RL.val (x_not (b := false) rfl) ?_
  refine RL.nil ?_
  refine Run.condT rfl ?_
  refine Run.seq ?_
  refine Run.region ?_
  refine RL.val (x_assignSl rfl) ?_
  refine RL.nil ?_
  refine Run.ret1 (v := .slice (none) (0) (0)) Tryz.func17 rfl rfl ?_
  exact ⟨_, rfl, rfl, K0⟩

set_option maxRecDepth 100000 in
set_option maxHeartbeats 4000000 in
theorem Retired_zero (b : Nat) (s0 : ByteArray) (w : World) (hb : Blk w b [.int .i32 (0), .int .u32 (0), .pointer none, .int .i64 (0), .map none, .map none, .map none] 35) :
    Calls Tryz.prog 17 #[.pointer (some ⟨b, 0, none⟩), .string (s0)] w (Ret (fun v w' => v = .slice (none) (0) (0) ∧ Blk w' b [.int .i32 (0), .int .u32 (0), .pointer none, .int .i64 (0), .map none, .map none, .map none] 35 ∧ Keeps (one b) w w')) := by
  refine calls_run (n := 18) Tryz.func17 rfl rfl rfl ?_
  refine Run.seq ?_
  refine Run.region ?_
  refine RL.val (x_assignSl rfl) ?_
  refine RL.nil ?_
  refine Run.seq ?_
  refine Run.seq ?_
  refine Run.region ?_
  refine RL.val (x_moveP rfl) ?_
  refine RL.st rfl <| St1.call (vals := [.pointer (some ⟨b, 0, none⟩)]) en19 rfl (locked_zero _  _ hb) ?_
  rintro _ w_1 ⟨rfl, hb_2, K_3⟩
  have K0 := (Keeps.refl (one b) w).trans K_3 (fun x _ hx => by simp only [one] at hx; subst hx; exact rfl)
  replace hb := hb_2
  clear hb_2
  refine RL.val (x_not (b := false) rfl) ?_
  refine RL.nil ?_
  refine Run.condT rfl ?_
  refine Run.seq ?_
  refine Run.region ?_
  refine RL.val (x_assignSl rfl) ?_
  refine RL.nil ?_
  refine Run.ret1 (v := .slice (none) (0) (0)) Tryz.func17 rfl rfl ?_
  exact ⟨_, rfl, rfl, hb, K0⟩

end Go.Proofs.YtnphndfbgdkgbaaGreatDoor
