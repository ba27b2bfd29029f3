/-
  DiskNone.
-/
import Derived.Test.YtambibdkanpmaaaRows
import Derived.Test.YtambibdkanpmaaaDh
namespace Go.Proofs.Ytambibdkanpmaaa
attribute [local irreducible] St1 RL RA RT RT1 Run

theorem ty23 : Ty Try.prog 23 1 8 (.pointer none) false := ty_of (by kernel_rfl) (by kernel_rfl)
theorem en11 : Enters Try.prog 11 := enters_of Try.func11 rfl (by kernel_rfl)
theorem en13 : Enters Try.prog 13 := enters_of Try.func13 rfl (by kernel_rfl)
theorem en16 : Enters Try.prog 16 := enters_of Try.func16 rfl (by kernel_rfl)
theorem en17 : Enters Try.prog 17 := enters_of Try.func17 rfl (by kernel_rfl)
theorem en27 : Enters Try.prog 27 := enters_of Try.func27 rfl (by kernel_rfl)

set_option maxRecDepth 100000 in
set_option maxHeartbeats 4000000 in
theorem made_nil  (w : World) :
    Calls Try.prog 38 #[.pointer none] w (Ret (fun v w' => v = .bool (false) ∧ Ext w w')) := by
  refine calls_run (n := 12) Try.func38 rfl rfl rfl ?_
  refine Run.seq ?_
  refine Run.region ?_
  refine RL.val (x_assignB rfl) ?_
  refine RL.nil ?_
  refine Run.seq ?_
  refine Run.region ?_
  refine RL.val (x_moveP rfl) ?_
  refine RL.val (litF (x_ptrNotNil Try.underlying23 rfl rfl) rfl) ?_
  refine RL.val (x_moveB rfl) ?_
  refine RL.guardF (wantedT0 rfl rfl rfl rfl) ?_
  refine RL.guardF (wantedT0 rfl rfl rfl rfl) ?_
  refine RL.guardF (wantedT0 rfl rfl rfl rfl) ?_
  refine RL.guardF (wantedT0 rfl rfl rfl rfl) ?_
  refine RL.guardF (wantedT0 rfl rfl rfl rfl) ?_
  refine RL.val (x_and (b := false) (e := false) rfl rfl rfl) ?_
  refine RL.val (x_assignB rfl) ?_
  refine RL.nil ?_
  refine Run.ret1 (v := .bool (false)) Try.func38 rfl rfl ?_
  exact ⟨_, rfl, rfl, (Keeps.refl _ w)⟩

set_option maxRecDepth 100000 in
set_option maxHeartbeats 4000000 in
theorem made_zero (b : Nat)  (w : World) (hb : Blk w b [.map none, .int .i64 (0)] 45) :
    Calls Try.prog 38 #[.pointer (some ⟨b, 0, none⟩)] w (Ret (fun v w' => v = .bool (false) ∧ Ext w w')) := by
  refine calls_run (n := 12) Try.func38 rfl rfl rfl ?_
  refine Run.seq ?_
  refine Run.region ?_
  refine RL.val (x_assignB rfl) ?_
  refine RL.nil ?_
  refine Run.seq ?_
  refine Run.region ?_
  refine RL.val (x_moveP rfl) ?_
  refine RL.val (litT (x_ptrNotNil Try.underlying23 rfl rfl) rfl) ?_
  refine RL.val (x_moveB rfl) ?_
  refine RL.gst (wantedT1 rfl rfl rfl rfl) <| St1.val (x_moveP rfl) ?_
  refine RL.gst (wantedT1 rfl rfl rfl rfl) <| St1.val (x_nilCheck rfl) ?_
  refine RL.gst (wantedT1 rfl rfl rfl rfl) <| St1.val (x_fld (o' := 0) Try.underlying45 rfl ty43 rfl rfl rfl) ?_
  refine RL.gst (wantedT1 rfl rfl rfl rfl) <| St1.val (x_ld (v := .map none) ty43 rfl rfl (hb.cl.field (i := 0) rfl)) ?_
  refine RL.gst (wantedT1 rfl rfl rfl rfl) <| St1.val (litF (x_mapNotNil Try.underlying43 rfl rfl) rfl) ?_
  refine RL.val (x_andT rfl rfl rfl) ?_
  refine RL.val (x_assignB rfl) ?_
  refine RL.nil ?_
  refine Run.ret1 (v := .bool (false)) Try.func38 rfl rfl ?_
  exact ⟨_, rfl, rfl, (Keeps.refl _ w)⟩

set_option maxRecDepth 100000 in
set_option maxHeartbeats 4000000 in
theorem look_nil (s0 : ByteArray) (w : World) :
    Calls Try.prog 37 #[.pointer none, .string (s0)] w (Ret (fun v w' => v = .tuple #[.pointer none, .int .i64 (8)] ∧ Ext w w')) := by
  refine calls_run (n := 28) Try.func37 rfl rfl rfl ?_
  refine Run.seq ?_
  refine Run.region ?_
  refine RL.val (x_assignP rfl) ?_
  refine RL.val (x_assignI rfl) ?_
  refine RL.nil ?_
  refine Run.seq ?_
  refine Run.block ?_
  refine Run.seq ?_
  refine Run.region ?_
  refine RL.val (x_moveP rfl) ?_
  refine RL.st rfl <| St1.call (vals := [.pointer none]) en38 rfl (made_nil  _) ?_
  rintro _ w_1 ⟨rfl, K_2⟩
  have K0 := (K_2 : Ext w _)
  refine RL.val (x_not rfl) ?_
  refine RL.val (x_assignB rfl) ?_
  refine RL.nil ?_
  refine Run.condT rfl ?_
  refine Run.seq ?_
  refine Run.region ?_
  refine RL.val (x_assignP rfl) ?_
  refine RL.val (x_assignI rfl) ?_
  refine RL.nil ?_
  refine Run.ret2 (v := .pointer none) (x := .int .i64 (8)) Try.func37 rfl rfl rfl ?_
  exact ⟨_, rfl, rfl, K0⟩

set_option maxRecDepth 100000 in
set_option maxHeartbeats 4000000 in
theorem look_zero (b : Nat) (s0 : ByteArray) (w : World) (hb : Blk w b [.map none, .int .i64 (0)] 45) :
    Calls Try.prog 37 #[.pointer (some ⟨b, 0, none⟩), .string (s0)] w (Ret (fun v w' => v = .tuple #[.pointer none, .int .i64 (8)] ∧ Ext w w')) := by
  refine calls_run (n := 28) Try.func37 rfl rfl rfl ?_
  refine Run.seq ?_
  refine Run.region ?_
  refine RL.val (x_assignP rfl) ?_
  refine RL.val (x_assignI rfl) ?_
  refine RL.nil ?_
  refine Run.seq ?_
  refine Run.block ?_
  refine Run.seq ?_
  refine Run.region ?_
  refine RL.val (x_moveP rfl) ?_
  refine RL.st rfl <| St1.call (vals := [.pointer (some ⟨b, 0, none⟩)]) en38 rfl (made_zero _  _ hb) ?_
  rintro _ w_1 ⟨rfl, K_2⟩
  replace hb := hb.ext K_2
  have K0 := (K_2 : Ext w _)
  refine RL.val (x_not rfl) ?_
  refine RL.val (x_assignB rfl) ?_
  refine RL.nil ?_
  refine Run.condT rfl ?_
  refine Run.seq ?_
  refine Run.region ?_
  refine RL.val (x_assignP rfl) ?_
  refine RL.val (x_assignI rfl) ?_
  refine RL.nil ?_
  refine Run.ret2 (v := .pointer none) (x := .int .i64 (8)) Try.func37 rfl rfl rfl ?_
  exact ⟨_, rfl, rfl, K0⟩

set_option maxRecDepth 100000 in
set_option maxHeartbeats 4000000 in
theorem Used_nil  (w : World) :
    Calls Try.prog 26 #[.pointer none] w (Ret (fun v w' => v = .int .i64 (0) ∧ Ext w w')) := by
  refine calls_run (n := 25) Try.func26 rfl rfl rfl ?_
  refine Run.seq ?_
  refine Run.region ?_
  refine RL.val (x_assignI rfl) ?_
  refine RL.nil ?_
  refine Run.seq ?_
  refine Run.region ?_
  refine RL.val (x_assignI rfl) ?_
  refine RL.nil ?_
  refine Run.seq ?_
  refine Run.seq ?_
  refine Run.region ?_
  refine RL.val (x_moveP rfl) ?_
  refine RL.st rfl <| St1.call (vals := [.pointer none]) en38 rfl (made_nil  _) ?_
  rintro _ w_1 ⟨rfl, K_2⟩
  have K0 := (K_2 : Ext w _)
  refine RL.nil ?_
  refine Run.condF rfl ?_
  refine Run.skip ?_
  refine Run.seq ?_
  refine Run.region ?_
  refine RL.val (x_moveI rfl) ?_
  refine RL.val (x_assignI rfl) ?_
  refine RL.nil ?_
  refine Run.ret1 (v := .int .i64 (0)) Try.func26 rfl rfl ?_
  exact ⟨_, rfl, rfl, K0⟩

set_option maxRecDepth 100000 in
set_option maxHeartbeats 4000000 in
theorem Used_zero (b : Nat)  (w : World) (hb : Blk w b [.map none, .int .i64 (0)] 45) :
    Calls Try.prog 26 #[.pointer (some ⟨b, 0, none⟩)] w (Ret (fun v w' => v = .int .i64 (0) ∧ Ext w w')) := by
  refine calls_run (n := 25) Try.func26 rfl rfl rfl ?_
  refine Run.seq ?_
  refine Run.region ?_
  refine RL.val (x_assignI rfl) ?_
  refine RL.nil ?_
  refine Run.seq ?_
  refine Run.region ?_
  refine RL.val (x_assignI rfl) ?_
  refine RL.nil ?_
  refine Run.seq ?_
  refine Run.seq ?_
  refine Run.region ?_
  refine RL.val (x_moveP rfl) ?_
  refine RL.st rfl <| St1.call (vals := [.pointer (some ⟨b, 0, none⟩)]) en38 rfl (made_zero _  _ hb) ?_
  rintro _ w_1 ⟨rfl, K_2⟩
  replace hb := hb.ext K_2
  have K0 := (K_2 : Ext w _)
  refine RL.nil ?_
  refine Run.condF rfl ?_
  refine Run.skip ?_
  refine Run.seq ?_
  refine Run.region ?_
  refine RL.val (x_moveI rfl) ?_
  refine RL.val (x_assignI rfl) ?_
  refine RL.nil ?_
  refine Run.ret1 (v := .int .i64 (0)) Try.func26 rfl rfl ?_
  exact ⟨_, rfl, rfl, K0⟩

set_option maxRecDepth 100000 in
set_option maxHeartbeats 4000000 in
theorem Append_nil (s0 : ByteArray) (a1 : Option Addr) (n1 c1 : Nat) (w : World) :
    Calls Try.prog 19 #[.pointer none, .string (s0), .slice (a1) (n1) (c1)] w (Ret (fun v w' => v = .int .i64 (8) ∧ Ext w w')) := by
  refine calls_run (n := 63) Try.func19 rfl rfl rfl ?_
  refine Run.seq ?_
  refine Run.region ?_
  refine RL.val (x_assignI rfl) ?_
  refine RL.nil ?_
  refine Run.seq ?_
  refine Run.region ?_
  refine RL.val (x_moveP rfl) ?_
  refine RL.val (x_moveS rfl) ?_
  refine RL.st rfl <| St1.call (vals := [.pointer none, .string (s0)]) en37 rfl (look_nil s0 _) ?_
  rintro _ w_1 ⟨rfl, K_2⟩
  have K0 := (K_2 : Ext w _)
  refine RL.val (x_moveT rfl) ?_
  refine RL.val (x_extract rfl rfl) ?_
  refine RL.val (x_extract rfl rfl) ?_
  refine RL.val (x_assignP rfl) ?_
  refine RL.val (x_assignI rfl) ?_
  refine RL.nil ?_
  refine Run.seq ?_
  refine Run.seq ?_
  refine Run.region ?_
  refine RL.val (x_moveI rfl) ?_
  refine RL.val (litT (x_neI rfl rfl) (by decide)) ?_
  refine RL.val (x_moveB rfl) ?_
  refine RL.gst (wantedT1 rfl rfl rfl rfl) <| St1.val (x_moveI rfl) ?_
  refine RL.gst (wantedT1 rfl rfl rfl rfl) <| St1.val (litT (x_neI rfl rfl) (by decide)) ?_
  refine RL.val (x_andT rfl rfl rfl) ?_
  refine RL.nil ?_
  refine Run.condT rfl ?_
  refine Run.seq ?_
  refine Run.region ?_
  refine RL.val (x_moveI rfl) ?_
  refine RL.val (x_assignI rfl) ?_
  refine RL.nil ?_
  refine Run.ret1 (v := .int .i64 (8)) Try.func19 rfl rfl ?_
  exact ⟨_, rfl, rfl, K0⟩

set_option maxRecDepth 100000 in
set_option maxHeartbeats 4000000 in
theorem Append_zero (b : Nat) (s0 : ByteArray) (a1 : Option Addr) (n1 c1 : Nat) (w : World) (hb : Blk w b [.map none, .int .i64 (0)] 45) :
    Calls Try.prog 19 #[.pointer (some ⟨b, 0, none⟩), .string (s0), .slice (a1) (n1) (c1)] w (Ret (fun v w' => v = .int .i64 (8) ∧ Ext w w')) := by
  refine calls_run (n := 63) Try.func19 rfl rfl rfl ?_
  refine Run.seq ?_
  refine Run.region ?_
  refine RL.val (x_assignI rfl) ?_
  refine RL.nil ?_
  refine Run.seq ?_
  refine Run.region ?_
  refine RL.val (x_moveP rfl) ?_
  refine RL.val (x_moveS rfl) ?_
  refine RL.st rfl <| St1.call (vals := [.pointer (some ⟨b, 0, none⟩), .string (s0)]) en37 rfl (look_zero _ s0 _ hb) ?_
  rintro _ w_1 ⟨rfl, K_2⟩
  replace hb := hb.ext K_2
  have K0 := (K_2 : Ext w _)
  refine RL.val (x_moveT rfl) ?_
  refine RL.val (x_extract rfl rfl) ?_
  refine RL.val (x_extract rfl rfl) ?_
  refine RL.val (x_assignP rfl) ?_
  refine RL.val (x_assignI rfl) ?_
  refine RL.nil ?_
  refine Run.seq ?_
  refine Run.seq ?_
  refine Run.region ?_
  refine RL.val (x_moveI rfl) ?_
  refine RL.val (litT (x_neI rfl rfl) (by decide)) ?_
  refine RL.val (x_moveB rfl) ?_
  refine RL.gst (wantedT1 rfl rfl rfl rfl) <| St1.val (x_moveI rfl) ?_
  refine RL.gst (wantedT1 rfl rfl rfl rfl) <| St1.val (litT (x_neI rfl rfl) (by decide)) ?_
  refine RL.val (x_andT rfl rfl rfl) ?_
  refine RL.nil ?_
  refine Run.condT rfl ?_
  refine Run.seq ?_
  refine Run.region ?_
  refine RL.val (x_moveI rfl) ?_
  refine RL.val (x_assignI rfl) ?_
  refine RL.nil ?_
  refine Run.ret1 (v := .int .i64 (8)) Try.func19 rfl rfl ?_
  exact ⟨_, rfl, rfl, K0⟩

set_option maxRecDepth 100000 in
set_option maxHeartbeats 4000000 in
theorem Sync_nil (s0 : ByteArray) (w : World) :
    Calls Try.prog 20 #[.pointer none, .string (s0)] w (Ret (fun v w' => v = .int .i64 (8) ∧ Ext w w')) := by
  refine calls_run (n := 24) Try.func20 rfl rfl rfl ?_
  refine Run.seq ?_
  refine Run.region ?_
  refine RL.val (x_assignI rfl) ?_
  refine RL.nil ?_
  refine Run.seq ?_
  refine Run.region ?_
  refine RL.val (x_moveP rfl) ?_
  refine RL.val (x_moveS rfl) ?_
  refine RL.st rfl <| St1.call (vals := [.pointer none, .string (s0)]) en37 rfl (look_nil s0 _) ?_
  rintro _ w_1 ⟨rfl, K_2⟩
  have K0 := (K_2 : Ext w _)
  refine RL.val (x_moveT rfl) ?_
  refine RL.val (x_extract rfl rfl) ?_
  refine RL.val (x_extract rfl rfl) ?_
  refine RL.val (x_assignP rfl) ?_
  refine RL.val (x_assignI rfl) ?_
  refine RL.nil ?_
  refine Run.seq ?_
  refine Run.seq ?_
  refine Run.region ?_
  refine RL.val (x_moveI rfl) ?_
  refine RL.val (litF (x_eqI rfl rfl) (by decide)) ?_
  refine RL.nil ?_
  refine Run.condF rfl ?_
  refine Run.skip ?_
  refine Run.seq ?_
  refine Run.region ?_
  refine RL.val (x_moveI rfl) ?_
  refine RL.val (x_assignI rfl) ?_
  refine RL.nil ?_
  refine Run.ret1 (v := .int .i64 (8)) Try.func20 rfl rfl ?_
  exact ⟨_, rfl, rfl, K0⟩

set_option maxRecDepth 100000 in
set_option maxHeartbeats 4000000 in
theorem Sync_zero (b : Nat) (s0 : ByteArray) (w : World) (hb : Blk w b [.map none, .int .i64 (0)] 45) :
    Calls Try.prog 20 #[.pointer (some ⟨b, 0, none⟩), .string (s0)] w (Ret (fun v w' => v = .int .i64 (8) ∧ Ext w w')) := by
  refine calls_run (n := 24) Try.func20 rfl rfl rfl ?_
  refine Run.seq ?_
  refine Run.region ?_
  refine RL.val (x_assignI rfl) ?_
  refine RL.nil ?_
  refine Run.seq ?_
  refine Run.region ?_
  refine RL.val (x_moveP rfl) ?_
  refine RL.val (x_moveS rfl) ?_
  refine RL.st rfl <| St1.call (vals := [.pointer (some ⟨b, 0, none⟩), .string (s0)]) en37 rfl (look_zero _ s0 _ hb) ?_
  rintro _ w_1 ⟨rfl, K_2⟩
  replace hb := hb.ext K_2
  have K0 := (K_2 : Ext w _)
  refine RL.val (x_moveT rfl) ?_
  refine RL.val (x_extract rfl rfl) ?_
  refine RL.val (x_extract rfl rfl) ?_
  refine RL.val (x_assignP rfl) ?_
  refine RL.val (x_assignI rfl) ?_
  refine RL.nil ?_
  refine Run.seq ?_
  refine Run.seq ?_
  refine Run.region ?_
  refine RL.val (x_moveI rfl) ?_
  refine RL.val (litF (x_eqI rfl rfl) (by decide)) ?_
  refine RL.nil ?_
  refine Run.condF rfl ?_
  refine Run.skip ?_
  refine Run.seq ?_
  refine Run.region ?_
  refine RL.val (x_moveI rfl) ?_
  refine RL.val (x_assignI rfl) ?_
  refine RL.nil ?_
  refine Run.ret1 (v := .int .i64 (8)) Try.func20 rfl rfl ?_
  exact ⟨_, rfl, rfl, K0⟩

set_option maxRecDepth 100000 in
set_option maxHeartbeats 4000000 in
theorem Read_nil (s0 : ByteArray) (w : World) :
    Calls Try.prog 12 #[.pointer none, .string (s0)] w (Ret (fun v w' => v = .tuple #[.slice (none) (0) (0), .int .i64 (8)] ∧ Ext w w')) := by
  refine calls_run (n := 22) Try.func12 rfl rfl rfl ?_
  refine Run.seq ?_
  refine Run.region ?_
  refine RL.val (x_assignSl rfl) ?_
  refine RL.val (x_assignI rfl) ?_
  refine RL.nil ?_
  refine Run.seq ?_
  refine Run.region ?_
  refine RL.val (x_moveP rfl) ?_
  refine RL.val (x_moveS rfl) ?_
  refine RL.st rfl <| St1.call (vals := [.pointer none, .string (s0)]) en37 rfl (look_nil s0 _) ?_
  rintro _ w_1 ⟨rfl, K_2⟩
  have K0 := (K_2 : Ext w _)
  refine RL.val (x_moveT rfl) ?_
  refine RL.val (x_extract rfl rfl) ?_
  refine RL.val (x_extract rfl rfl) ?_
  refine RL.val (x_assignP rfl) ?_
  refine RL.val (x_assignI rfl) ?_
  refine RL.nil ?_
  refine Run.seq ?_
  refine Run.seq ?_
  refine Run.region ?_
  refine RL.val (x_moveI rfl) ?_
  refine RL.val (litT (x_neI rfl rfl) (by decide)) ?_
  refine RL.nil ?_
  refine Run.condT rfl ?_
  refine Run.seq ?_
  refine Run.region ?_
  refine RL.val (x_moveI rfl) ?_
  refine RL.val (x_assignSl rfl) ?_
  refine RL.val (x_assignI rfl) ?_
  refine RL.nil ?_
  refine Run.ret2 (v := .slice (none) (0) (0)) (x := .int .i64 (8)) Try.func12 rfl rfl rfl ?_
  exact ⟨_, rfl, rfl, K0⟩

set_option maxRecDepth 100000 in
set_option maxHeartbeats 4000000 in
theorem Read_zero (b : Nat) (s0 : ByteArray) (w : World) (hb : Blk w b [.map none, .int .i64 (0)] 45) :
    Calls Try.prog 12 #[.pointer (some ⟨b, 0, none⟩), .string (s0)] w (Ret (fun v w' => v = .tuple #[.slice (none) (0) (0), .int .i64 (8)] ∧ Ext w w')) := by
  refine calls_run (n := 22) Try.func12 rfl rfl rfl ?_
  refine Run.seq ?_
  refine Run.region ?_
  refine RL.val (x_assignSl rfl) ?_
  refine RL.val (x_assignI rfl) ?_
  refine RL.nil ?_
  refine Run.seq ?_
  refine Run.region ?_
  refine RL.val (x_moveP rfl) ?_
  refine RL.val (x_moveS rfl) ?_
  refine RL.st rfl <| St1.call (vals := [.pointer (some ⟨b, 0, none⟩), .string (s0)]) en37 rfl (look_zero _ s0 _ hb) ?_
  rintro _ w_1 ⟨rfl, K_2⟩
  replace hb := hb.ext K_2
  have K0 := (K_2 : Ext w _)
  refine RL.val (x_moveT rfl) ?_
  refine RL.val (x_extract rfl rfl) ?_
  refine RL.val (x_extract rfl rfl) ?_
  refine RL.val (x_assignP rfl) ?_
  refine RL.val (x_assignI rfl) ?_
  refine RL.nil ?_
  refine Run.seq ?_
  refine Run.seq ?_
  refine Run.region ?_
  refine RL.val (x_moveI rfl) ?_
  refine RL.val (litT (x_neI rfl rfl) (by decide)) ?_
  refine RL.nil ?_
  refine Run.condT rfl ?_
  refine Run.seq ?_
  refine Run.region ?_
  refine RL.val (x_moveI rfl) ?_
  refine RL.val (x_assignSl rfl) ?_
  refine RL.val (x_assignI rfl) ?_
  refine RL.nil ?_
  refine Run.ret2 (v := .slice (none) (0) (0)) (x := .int .i64 (8)) Try.func12 rfl rfl rfl ?_
  exact ⟨_, rfl, rfl, K0⟩

set_option maxRecDepth 100000 in
set_option maxHeartbeats 4000000 in
theorem Size_nil (s0 : ByteArray) (w : World) :
    Calls Try.prog 13 #[.pointer none, .string (s0)] w (Ret (fun v w' => v = .tuple #[.int .i64 (0), .int .i64 (0), .int .i64 (8)] ∧ Ext w w')) := by
  refine calls_run (n := 26) Try.func13 rfl rfl rfl ?_
  refine Run.seq ?_
  refine Run.region ?_
  refine RL.val (x_assignI rfl) ?_
  refine RL.val (x_assignI rfl) ?_
  refine RL.val (x_assignI rfl) ?_
  refine RL.nil ?_
  refine Run.seq ?_
  refine Run.region ?_
  refine RL.val (x_moveP rfl) ?_
  refine RL.val (x_moveS rfl) ?_
  refine RL.st rfl <| St1.call (vals := [.pointer none, .string (s0)]) en37 rfl (look_nil s0 _) ?_
  rintro _ w_1 ⟨rfl, K_2⟩
  have K0 := (K_2 : Ext w _)
  refine RL.val (x_moveT rfl) ?_
  refine RL.val (x_extract rfl rfl) ?_
  refine RL.val (x_extract rfl rfl) ?_
  refine RL.val (x_assignP rfl) ?_
  refine RL.val (x_assignI rfl) ?_
  refine RL.nil ?_
  refine Run.seq ?_
  refine Run.seq ?_
  refine Run.region ?_
  refine RL.val (x_moveI rfl) ?_
  refine RL.val (litT (x_neI rfl rfl) (by decide)) ?_
  refine RL.nil ?_
  refine Run.condT rfl ?_
  refine Run.seq ?_
  refine Run.region ?_
  refine RL.val (x_moveI rfl) ?_
  refine RL.val (x_assignI rfl) ?_
  refine RL.val (x_assignI rfl) ?_
  refine RL.val (x_assignI rfl) ?_
  refine RL.nil ?_
  refine Run.ret3 (v := .int .i64 (0)) (x := .int .i64 (0)) (y := .int .i64 (8)) Try.func13 rfl rfl rfl rfl ?_
  exact ⟨_, rfl, rfl, K0⟩

set_option maxRecDepth 100000 in
set_option maxHeartbeats 4000000 in
theorem Size_zero (b : Nat) (s0 : ByteArray) (w : World) (hb : Blk w b [.map none, .int .i64 (0)] 45) :
    Calls Try.prog 13 #[.pointer (some ⟨b, 0, none⟩), .string (s0)] w (Ret (fun v w' => v = .tuple #[.int .i64 (0), .int .i64 (0), .int .i64 (8)] ∧ Ext w w')) := by
  refine calls_run (n := 26) Try.func13 rfl rfl rfl ?_
  refine Run.seq ?_
  refine Run.region ?_
  refine RL.val (x_assignI rfl) ?_
  refine RL.val (x_assignI rfl) ?_
  refine RL.val (x_assignI rfl) ?_
  refine RL.nil ?_
  refine Run.seq ?_
  refine Run.region ?_
  refine RL.val (x_moveP rfl) ?_
  refine RL.val (x_moveS rfl) ?_
  refine RL.st rfl <| St1.call (vals := [.pointer (some ⟨b, 0, none⟩), .string (s0)]) en37 rfl (look_zero _ s0 _ hb) ?_
  rintro _ w_1 ⟨rfl, K_2⟩
  replace hb := hb.ext K_2
  have K0 := (K_2 : Ext w _)
  refine RL.val (x_moveT rfl) ?_
  refine RL.val (x_extract rfl rfl) ?_
  refine RL.val (x_extract rfl rfl) ?_
  refine RL.val (x_assignP rfl) ?_
  refine RL.val (x_assignI rfl) ?_
  refine RL.nil ?_
  refine Run.seq ?_
  refine Run.seq ?_
  refine Run.region ?_
  refine RL.val (x_moveI rfl) ?_
  refine RL.val (litT (x_neI rfl rfl) (by decide)) ?_
  refine RL.nil ?_
  refine Run.condT rfl ?_
  refine Run.seq ?_
  refine Run.region ?_
  refine RL.val (x_moveI rfl) ?_
  refine RL.val (x_assignI rfl) ?_
  refine RL.val (x_assignI rfl) ?_
  refine RL.val (x_assignI rfl) ?_
  refine RL.nil ?_
  refine Run.ret3 (v := .int .i64 (0)) (x := .int .i64 (0)) (y := .int .i64 (8)) Try.func13 rfl rfl rfl rfl ?_
  exact ⟨_, rfl, rfl, K0⟩

set_option maxRecDepth 100000 in
set_option maxHeartbeats 4000000 in
theorem Rename_nil (s0 : ByteArray) (s1 : ByteArray) (w : World) :
    Calls Try.prog 21 #[.pointer none, .string (s0), .string (s1)] w (Ret (fun v w' => v = .int .i64 (8) ∧ Ext w w')) := by
  refine calls_run (n := 39) Try.func21 rfl rfl rfl ?_
  refine Run.seq ?_
  refine Run.region ?_
  refine RL.val (x_assignI rfl) ?_
  refine RL.nil ?_
  refine Run.seq ?_
  refine Run.region ?_
  refine RL.val (x_moveP rfl) ?_
  refine RL.val (x_moveS rfl) ?_
  refine RL.st rfl <| St1.call (vals := [.pointer none, .string (s0)]) en37 rfl (look_nil s0 _) ?_
  rintro _ w_1 ⟨rfl, K_2⟩
  have K0 := (K_2 : Ext w _)
  refine RL.val (x_moveT rfl) ?_
  refine RL.val (x_extract rfl rfl) ?_
  refine RL.val (x_extract rfl rfl) ?_
  refine RL.val (x_assignP rfl) ?_
  refine RL.val (x_assignI rfl) ?_
  refine RL.nil ?_
  refine Run.seq ?_
  refine Run.seq ?_
  refine Run.region ?_
  refine RL.val (x_moveI rfl) ?_
  refine RL.val (litT (x_eqI rfl rfl) (by decide)) ?_
  refine RL.val (x_moveB rfl) ?_
  refine RL.guardF (wantedF0 rfl rfl rfl rfl) ?_
  refine RL.guardF (wantedF0 rfl rfl rfl rfl) ?_
  refine RL.val (x_or (b := true) (e := false) rfl rfl rfl) ?_
  refine RL.nil ?_
  refine Run.condT rfl ?_
  refine Run.seq ?_
  refine Run.region ?_
  refine RL.val (x_moveI rfl) ?_
  refine RL.val (x_assignI rfl) ?_
  refine RL.nil ?_
  refine Run.ret1 (v := .int .i64 (8)) Try.func21 rfl rfl ?_
  exact ⟨_, rfl, rfl, K0⟩

set_option maxRecDepth 100000 in
set_option maxHeartbeats 4000000 in
theorem Rename_zero (b : Nat) (s0 : ByteArray) (s1 : ByteArray) (w : World) (hb : Blk w b [.map none, .int .i64 (0)] 45) :
    Calls Try.prog 21 #[.pointer (some ⟨b, 0, none⟩), .string (s0), .string (s1)] w (Ret (fun v w' => v = .int .i64 (8) ∧ Ext w w')) := by
  refine calls_run (n := 39) Try.func21 rfl rfl rfl ?_
  refine Run.seq ?_
  refine Run.region ?_
  refine RL.val (x_assignI rfl) ?_
  refine RL.nil ?_
  refine Run.seq ?_
  refine Run.region ?_
  refine RL.val (x_moveP rfl) ?_
  refine RL.val (x_moveS rfl) ?_
  refine RL.st rfl <| St1.call (vals := [.pointer (some ⟨b, 0, none⟩), .string (s0)]) en37 rfl (look_zero _ s0 _ hb) ?_
  rintro _ w_1 ⟨rfl, K_2⟩
  replace hb := hb.ext K_2
  have K0 := (K_2 : Ext w _)
  refine RL.val (x_moveT rfl) ?_
  refine RL.val (x_extract rfl rfl) ?_
  refine RL.val (x_extract rfl rfl) ?_
  refine RL.val (x_assignP rfl) ?_
  refine RL.val (x_assignI rfl) ?_
  refine RL.nil ?_
  refine Run.seq ?_
  refine Run.seq ?_
  refine Run.region ?_
  refine RL.val (x_moveI rfl) ?_
  refine RL.val (litT (x_eqI rfl rfl) (by decide)) ?_
  refine RL.val (x_moveB rfl) ?_
  refine RL.guardF (wantedF0 rfl rfl rfl rfl) ?_
  refine RL.guardF (wantedF0 rfl rfl rfl rfl) ?_
  refine RL.val (x_or (b := true) (e := false) rfl rfl rfl) ?_
  refine RL.nil ?_
  refine Run.condT rfl ?_
  refine Run.seq ?_
  refine Run.region ?_
  refine RL.val (x_moveI rfl) ?_
  refine RL.val (x_assignI rfl) ?_
  refine RL.nil ?_
  refine Run.ret1 (v := .int .i64 (8)) Try.func21 rfl rfl ?_
  exact ⟨_, rfl, rfl, K0⟩

set_option maxRecDepth 100000 in
set_option maxHeartbeats 4000000 in
theorem Remove_nil (s0 : ByteArray) (w : World) :
    Calls Try.prog 22 #[.pointer none, .string (s0)] w (Ret (fun v w' => v = .int .i64 (8) ∧ Ext w w')) := by
  refine calls_run (n := 21) Try.func22 rfl rfl rfl ?_
  refine Run.seq ?_
  refine Run.region ?_
  refine RL.val (x_assignI rfl) ?_
  refine RL.nil ?_
  refine Run.seq ?_
  refine Run.region ?_
  refine RL.val (x_moveP rfl) ?_
  refine RL.val (x_moveS rfl) ?_
  refine RL.st rfl <| St1.call (vals := [.pointer none, .string (s0)]) en37 rfl (look_nil s0 _) ?_
  rintro _ w_1 ⟨rfl, K_2⟩
  have K0 := (K_2 : Ext w _)
  refine RL.val (x_moveT rfl) ?_
  refine RL.val (x_extract rfl rfl) ?_
  refine RL.val (x_extract rfl rfl) ?_
  refine RL.val (x_assignP rfl) ?_
  refine RL.val (x_assignI rfl) ?_
  refine RL.nil ?_
  refine Run.seq ?_
  refine Run.seq ?_
  refine Run.region ?_
  refine RL.val (x_moveI rfl) ?_
  refine RL.val (litF (x_eqI rfl rfl) (by decide)) ?_
  refine RL.nil ?_
  refine Run.condF rfl ?_
  refine Run.skip ?_
  refine Run.seq ?_
  refine Run.region ?_
  refine RL.val (x_moveI rfl) ?_
  refine RL.val (x_assignI rfl) ?_
  refine RL.nil ?_
  refine Run.ret1 (v := .int .i64 (8)) Try.func22 rfl rfl ?_
  exact ⟨_, rfl, rfl, K0⟩

set_option maxRecDepth 100000 in
set_option maxHeartbeats 4000000 in
theorem Remove_zero (b : Nat) (s0 : ByteArray) (w : World) (hb : Blk w b [.map none, .int .i64 (0)] 45) :
    Calls Try.prog 22 #[.pointer (some ⟨b, 0, none⟩), .string (s0)] w (Ret (fun v w' => v = .int .i64 (8) ∧ Ext w w')) := by
  refine calls_run (n := 21) Try.func22 rfl rfl rfl ?_
  refine Run.seq ?_
  refine Run.region ?_
  refine RL.val (x_assignI rfl) ?_
  refine RL.nil ?_
  refine Run.seq ?_
  refine Run.region ?_
  refine RL.val (x_moveP rfl) ?_
  refine RL.val (x_moveS rfl) ?_
  refine RL.st rfl <| St1.call (vals := [.pointer (some ⟨b, 0, none⟩), .string (s0)]) en37 rfl (look_zero _ s0 _ hb) ?_
  rintro _ w_1 ⟨rfl, K_2⟩
  replace hb := hb.ext K_2
  have K0 := (K_2 : Ext w _)
  refine RL.val (x_moveT rfl) ?_
  refine RL.val (x_extract rfl rfl) ?_
  refine RL.val (x_extract rfl rfl) ?_
  refine RL.val (x_assignP rfl) ?_
  refine RL.val (x_assignI rfl) ?_
  refine RL.nil ?_
  refine Run.seq ?_
  refine Run.seq ?_
  refine Run.region ?_
  refine RL.val (x_moveI rfl) ?_
  refine RL.val (litF (x_eqI rfl rfl) (by decide)) ?_
  refine RL.nil ?_
  refine Run.condF rfl ?_
  refine Run.skip ?_
  refine Run.seq ?_
  refine Run.region ?_
  refine RL.val (x_moveI rfl) ?_
  refine RL.val (x_assignI rfl) ?_
  refine RL.nil ?_
  refine Run.ret1 (v := .int .i64 (8)) Try.func22 rfl rfl ?_
  exact ⟨_, rfl, rfl, K0⟩

set_option maxRecDepth 100000 in
set_option maxHeartbeats 4000000 in
theorem Files_nil  (w : World) :
    Calls Try.prog 17 #[.pointer none] w (Ret (fun v w' => v = .slice (none) (0) (0) ∧ Ext w w')) := by
  refine calls_run (n := 12) Try.func17 rfl rfl rfl ?_
  refine Run.seq ?_
  refine Run.region ?_
  refine RL.val (x_assignSl rfl) ?_
  refine RL.nil ?_
  refine Run.seq ?_
  refine Run.seq ?_
  refine Run.region ?_
  refine RL.val (x_moveP rfl) ?_
  refine RL.st rfl <| St1.call (vals := [.pointer none]) en38 rfl (made_nil  _) ?_
  rintro _ w_1 ⟨rfl, K_2⟩
  have K0 := (K_2 : Ext w _)
  refine RL.val (x_not rfl) ?_
  refine RL.nil ?_
  refine Run.condT rfl ?_
  refine Run.seq ?_
  refine Run.region ?_
  refine RL.val (x_assignSl rfl) ?_
  refine RL.nil ?_
  refine Run.ret1 (v := .slice (none) (0) (0)) Try.func17 rfl rfl ?_
  exact ⟨_, rfl, rfl, K0⟩

set_option maxRecDepth 100000 in
set_option maxHeartbeats 4000000 in
theorem Files_zero (b : Nat)  (w : World) (hb : Blk w b [.map none, .int .i64 (0)] 45) :
    Calls Try.prog 17 #[.pointer (some ⟨b, 0, none⟩)] w (Ret (fun v w' => v = .slice (none) (0) (0) ∧ Ext w w')) := by
  refine calls_run (n := 12) Try.func17 rfl rfl rfl ?_
  refine Run.seq ?_
  refine Run.region ?_
  refine RL.val (x_assignSl rfl) ?_
  refine RL.nil ?_
  refine Run.seq ?_
  refine Run.seq ?_
  refine Run.region ?_
  refine RL.val (x_moveP rfl) ?_
  refine RL.st rfl <| St1.call (vals := [.pointer (some ⟨b, 0, none⟩)]) en38 rfl (made_zero _  _ hb) ?_
  rintro _ w_1 ⟨rfl, K_2⟩
  replace hb := hb.ext K_2
  have K0 := (K_2 : Ext w _)
  refine RL.val (x_not rfl) ?_
  refine RL.nil ?_
  refine Run.condT rfl ?_
  refine Run.seq ?_
  refine Run.region ?_
  refine RL.val (x_assignSl rfl) ?_
  refine RL.nil ?_
  refine Run.ret1 (v := .slice (none) (0) (0)) Try.func17 rfl rfl ?_
  exact ⟨_, rfl, rfl, K0⟩

set_option maxRecDepth 100000 in
set_option maxHeartbeats 4000000 in
theorem Room_nil  (w : World) :
    Calls Try.prog 27 #[.pointer none] w (Ret (fun v w' => v = .int .i64 (0) ∧ Ext w w')) := by
  refine calls_run (n := 10) Try.func27 rfl rfl rfl ?_
  refine Run.seq ?_
  refine Run.region ?_
  refine RL.val (x_assignI rfl) ?_
  refine RL.nil ?_
  refine Run.seq ?_
  refine Run.seq ?_
  refine Run.region ?_
  refine RL.val (x_moveP rfl) ?_
  refine RL.st rfl <| St1.call (vals := [.pointer none]) en38 rfl (made_nil  _) ?_
  rintro _ w_1 ⟨rfl, K_2⟩
  have K0 := (K_2 : Ext w _)
  refine RL.val (x_not rfl) ?_
  refine RL.nil ?_
  refine Run.condT rfl ?_
  refine Run.seq ?_
  refine Run.region ?_
  refine RL.val (x_assignI rfl) ?_
  refine RL.nil ?_
  refine Run.ret1 (v := .int .i64 (0)) Try.func27 rfl rfl ?_
  exact ⟨_, rfl, rfl, K0⟩

set_option maxRecDepth 100000 in
set_option maxHeartbeats 4000000 in
theorem Room_zero (b : Nat)  (w : World) (hb : Blk w b [.map none, .int .i64 (0)] 45) :
    Calls Try.prog 27 #[.pointer (some ⟨b, 0, none⟩)] w (Ret (fun v w' => v = .int .i64 (0) ∧ Ext w w')) := by
  refine calls_run (n := 10) Try.func27 rfl rfl rfl ?_
  refine Run.seq ?_
  refine Run.region ?_
  refine RL.val (x_assignI rfl) ?_
  refine RL.nil ?_
  refine Run.seq ?_
  refine Run.seq ?_
  refine Run.region ?_
  refine RL.val (x_moveP rfl) ?_
  refine RL.st rfl <| St1.call (vals := [.pointer (some ⟨b, 0, none⟩)]) en38 rfl (made_zero _  _ hb) ?_
  rintro _ w_1 ⟨rfl, K_2⟩
  replace hb := hb.ext K_2
  have K0 := (K_2 : Ext w _)
  refine RL.val (x_not rfl) ?_
  refine RL.nil ?_
  refine Run.condT rfl ?_
  refine Run.seq ?_
  refine Run.region ?_
  refine RL.val (x_assignI rfl) ?_
  refine RL.nil ?_
  refine Run.ret1 (v := .int .i64 (0)) Try.func27 rfl rfl ?_
  exact ⟨_, rfl, rfl, K0⟩

set_option maxRecDepth 100000 in
set_option maxHeartbeats 4000000 in
theorem Crash_nil (a0 : Option Addr) (n0 c0 : Nat) (w : World) :
    Calls Try.prog 23 #[.pointer none, .slice (a0) (n0) (c0)] w (Ret (fun v w' => v = .int .i64 (8) ∧ Ext w w')) := by
  refine calls_run (n := 60) Try.func23 rfl rfl rfl ?_
  refine Run.seq ?_
  refine Run.region ?_
  refine RL.val (x_assignI rfl) ?_
  refine RL.nil ?_
  refine Run.seq ?_
  refine Run.seq ?_
  refine Run.region ?_
  refine RL.val (x_moveP rfl) ?_
  refine RL.st rfl <| St1.call (vals := [.pointer none]) en38 rfl (made_nil  _) ?_
  rintro _ w_1 ⟨rfl, K_2⟩
  have K0 := (K_2 : Ext w _)
  refine RL.val (x_not rfl) ?_
  refine RL.nil ?_
  refine Run.condT rfl ?_
  refine Run.seq ?_
  refine Run.region ?_
  refine RL.val (x_assignI rfl) ?_
  refine RL.nil ?_
  refine Run.ret1 (v := .int .i64 (8)) Try.func23 rfl rfl ?_
  exact ⟨_, rfl, rfl, K0⟩

set_option maxRecDepth 100000 in
set_option maxHeartbeats 4000000 in
theorem Crash_zero (b : Nat) (a0 : Option Addr) (n0 c0 : Nat) (w : World) (hb : Blk w b [.map none, .int .i64 (0)] 45) :
    Calls Try.prog 23 #[.pointer (some ⟨b, 0, none⟩), .slice (a0) (n0) (c0)] w (Ret (fun v w' => v = .int .i64 (8) ∧ Ext w w')) := by
  refine calls_run (n := 60) Try.func23 rfl rfl rfl ?_
  refine Run.seq ?_
  refine Run.region ?_
  refine RL.val (x_assignI rfl) ?_
  refine RL.nil ?_
  refine Run.seq ?_
  refine Run.seq ?_
  refine Run.region ?_
  refine RL.val (x_moveP rfl) ?_
  refine RL.st rfl <| St1.call (vals := [.pointer (some ⟨b, 0, none⟩)]) en38 rfl (made_zero _  _ hb) ?_
  rintro _ w_1 ⟨rfl, K_2⟩
  replace hb := hb.ext K_2
  have K0 := (K_2 : Ext w _)
  refine RL.val (x_not rfl) ?_
  refine RL.nil ?_
  refine Run.condT rfl ?_
  refine Run.seq ?_
  refine Run.region ?_
  refine RL.val (x_assignI rfl) ?_
  refine RL.nil ?_
  refine Run.ret1 (v := .int .i64 (8)) Try.func23 rfl rfl ?_
  exact ⟨_, rfl, rfl, K0⟩

set_option maxRecDepth 100000 in
set_option maxHeartbeats 4000000 in
theorem Wipe_nil  (w : World) :
    Calls Try.prog 25 #[.pointer none] w (Ret (fun v w' => v = .int .i64 (8) ∧ Ext w w')) := by
  refine calls_run (n := 10) Try.func25 rfl rfl rfl ?_
  refine Run.seq ?_
  refine Run.region ?_
  refine RL.val (x_assignI rfl) ?_
  refine RL.nil ?_
  refine Run.seq ?_
  refine Run.seq ?_
  refine Run.region ?_
  refine RL.val (x_moveP rfl) ?_
  refine RL.st rfl <| St1.call (vals := [.pointer none]) en38 rfl (made_nil  _) ?_
  rintro _ w_1 ⟨rfl, K_2⟩
  have K0 := (K_2 : Ext w _)
  refine RL.val (x_not rfl) ?_
  refine RL.nil ?_
  refine Run.condT rfl ?_
  refine Run.seq ?_
  refine Run.region ?_
  refine RL.val (x_assignI rfl) ?_
  refine RL.nil ?_
  refine Run.ret1 (v := .int .i64 (8)) Try.func25 rfl rfl ?_
  exact ⟨_, rfl, rfl, K0⟩

set_option maxRecDepth 100000 in
set_option maxHeartbeats 4000000 in
theorem Wipe_zero (b : Nat)  (w : World) (hb : Blk w b [.map none, .int .i64 (0)] 45) :
    Calls Try.prog 25 #[.pointer (some ⟨b, 0, none⟩)] w (Ret (fun v w' => v = .int .i64 (8) ∧ Ext w w')) := by
  refine calls_run (n := 10) Try.func25 rfl rfl rfl ?_
  refine Run.seq ?_
  refine Run.region ?_
  refine RL.val (x_assignI rfl) ?_
  refine RL.nil ?_
  refine Run.seq ?_
  refine Run.seq ?_
  refine Run.region ?_
  refine RL.val (x_moveP rfl) ?_
  refine RL.st rfl <| St1.call (vals := [.pointer (some ⟨b, 0, none⟩)]) en38 rfl (made_zero _  _ hb) ?_
  rintro _ w_1 ⟨rfl, K_2⟩
  replace hb := hb.ext K_2
  have K0 := (K_2 : Ext w _)
  refine RL.val (x_not rfl) ?_
  refine RL.nil ?_
  refine Run.condT rfl ?_
  refine Run.seq ?_
  refine Run.region ?_
  refine RL.val (x_assignI rfl) ?_
  refine RL.nil ?_
  refine Run.ret1 (v := .int .i64 (8)) Try.func25 rfl rfl ?_
  exact ⟨_, rfl, rfl, K0⟩

set_option maxRecDepth 100000 in
set_option maxHeartbeats 4000000 in
theorem Copy_nil  (w : World) :
    Calls Try.prog 16 #[.pointer none] w (Ret (fun v w' => v = .pointer none ∧ Ext w w')) := by
  refine calls_run (n := 43) Try.func16 rfl rfl rfl ?_
  refine Run.seq ?_
  refine Run.region ?_
  refine RL.val (x_assignP rfl) ?_
  refine RL.nil ?_
  refine Run.seq ?_
  refine Run.seq ?_
  refine Run.region ?_
  refine RL.val (x_moveP rfl) ?_
  refine RL.st rfl <| St1.call (vals := [.pointer none]) en38 rfl (made_nil  _) ?_
  rintro _ w_1 ⟨rfl, K_2⟩
  have K0 := (K_2 : Ext w _)
  refine RL.val (x_not rfl) ?_
  refine RL.nil ?_
  refine Run.condT rfl ?_
  refine Run.seq ?_
  refine Run.region ?_
  refine RL.val (x_assignP rfl) ?_
  refine RL.nil ?_
  refine Run.ret1 (v := .pointer none) Try.func16 rfl rfl ?_
  exact ⟨_, rfl, rfl, K0⟩

set_option maxRecDepth 100000 in
set_option maxHeartbeats 4000000 in
theorem Copy_zero (b : Nat)  (w : World) (hb : Blk w b [.map none, .int .i64 (0)] 45) :
    Calls Try.prog 16 #[.pointer (some ⟨b, 0, none⟩)] w (Ret (fun v w' => v = .pointer none ∧ Ext w w')) := by
  refine calls_run (n := 43) Try.func16 rfl rfl rfl ?_
  refine Run.seq ?_
  refine Run.region ?_
  refine RL.val (x_assignP rfl) ?_
  refine RL.nil ?_
  refine Run.seq ?_
  refine Run.seq ?_
  refine Run.region ?_
  refine RL.val (x_moveP rfl) ?_
  refine RL.st rfl <| St1.call (vals := [.pointer (some ⟨b, 0, none⟩)]) en38 rfl (made_zero _  _ hb) ?_
  rintro _ w_1 ⟨rfl, K_2⟩
  replace hb := hb.ext K_2
  have K0 := (K_2 : Ext w _)
  refine RL.val (x_not rfl) ?_
  refine RL.nil ?_
  refine Run.condT rfl ?_
  refine Run.seq ?_
  refine Run.region ?_
  refine RL.val (x_assignP rfl) ?_
  refine RL.nil ?_
  refine Run.ret1 (v := .pointer none) Try.func16 rfl rfl ?_
  exact ⟨_, rfl, rfl, K0⟩

set_option maxRecDepth 100000 in
set_option maxHeartbeats 4000000 in
theorem law_none (s0 s1 : ByteArray) (a2 : Option Addr) (n2 c2 : Nat) (a3 : Option Addr) (ts : List TearC) (c3 : Nat) (pts : List PTear) (w : World) (hs : SlOf w a3 ts) (ht : TearsAt w ts pts) (hl : ts.length ≤ 4294967295) :
    Calls Try.prog 5 #[.string (s0), .string (s1), .slice (a2) (n2) (c2), .slice (a3) (ts.length) (c3)] w (Ret (fun v w' => v = .bool true ∧ Ext w w')) := by
  refine calls_run (n := 105) Try.func5 rfl rfl rfl ?_
  refine Run.seq ?_
  refine Run.region ?_
  refine RL.val (x_assignB rfl) ?_
  refine RL.nil ?_
  refine Run.seq ?_
  refine Run.seq ?_
  refine Run.region ?_
  refine RL.val (x_build (cells := #[.map none, .int .i64 (0)]) (by kernel_rfl)) ?_
  refine RL.st rfl <| St1.box (v := .agg #[.map none, .int .i64 (0)]) rfl ?_
  intro b_1 w_2 hl_5 hb_4 K_3
  replace hb_4 : Blk w_2 b_1 [.map none, .int .i64 (0)] 45 := hb_4
  have : w.heap.size ≤ b_1 := hl_5
  clear hl_5
  have K0 := (K_3 : Ext w _)
  refine RL.st rfl <| St1.buildSlice ([(none : Option Addr), some (⟨b_1, 0, none⟩ : Addr)] : List (Option Addr)) Try.underlying46 ty23 rfl rfl (by first | decide | (simp [Enc.size])) ?_
  intro b_6 w_7 hl_10 ho_9 K_8
  have pr_11 : ¬ own (some ⟨b_6, 0, none⟩) b_1 := notNew (ge_new hl_10) hb_4.lt
  have pg_12 : ∀ q_, own (some ⟨b_6, 0, none⟩) q_ → w.heap.size ≤ q_ := fun q_ h => Nat.le_trans K0.size ((ge_new hl_10) q_ h)
  clear hl_10
  replace hb_4 := hb_4.ext K_8
  replace K0 := K0.ext K_8
  refine RL.val (litI (c := 2) (x_lenSl Try.underlying46 rfl) rfl) ?_
  refine RL.val (x_moveI rfl) ?_
  refine RL.nil ?_
  refine Run.block ?_
  refine Run.unloop ?_
  refine Run.seq ?_
  refine Run.region ?_
  refine RL.val (litT (x_ltI rfl rfl) (by decide)) ?_
  refine RL.nil ?_
  refine Run.seq ?_
  refine Run.condT rfl ?_
  refine Run.skip ?_
  refine Run.seq ?_
  refine Run.block ?_
  refine Run.seq ?_
  refine Run.region ?_
  obtain ⟨b_13, o_14, x_17, hx_18, ha_15, hc_16⟩ := ho_9.sl.el (i := 0) (by simp)
  obtain rfl : (none : Option Addr) = x_17 := Option.some.inj hx_18
  refine RL.val (x_idxN Try.underlying46 ty23 rfl rfl ha_15 (by simp)) ?_
  refine RL.val (x_ldV (v := .pointer none) (y := (none : Option Addr)) ty23 rfl hc_16 rfl) ?_
  refine RL.val (x_assignP rfl) ?_
  refine RL.nil ?_
  refine Run.seq ?_
  refine Run.region ?_
  refine RL.val (x_moveP rfl) ?_
  refine RL.val (x_moveS rfl) ?_
  refine RL.st rfl <| St1.call (vals := [.pointer none, .string (s0)]) en12 rfl (Read_nil s0 _) ?_
  rintro _ w_19 ⟨rfl, K_20⟩
  replace hb_4 := hb_4.ext K_20
  replace ho_9 := ho_9.ext K_20
  replace K0 := K0.ext K_20
  refine RL.val (x_moveT rfl) ?_
  refine RL.val (x_extract rfl rfl) ?_
  refine RL.val (x_extract rfl rfl) ?_
  refine RL.val (x_assignSl rfl) ?_
  refine RL.val (x_assignI rfl) ?_
  refine RL.nil ?_
  refine Run.seq ?_
  refine Run.region ?_
  refine RL.val (x_moveP rfl) ?_
  refine RL.val (x_moveS rfl) ?_
  refine RL.st rfl <| St1.call (vals := [.pointer none, .string (s0)]) en13 rfl (Size_nil s0 _) ?_
  rintro _ w_21 ⟨rfl, K_22⟩
  replace hb_4 := hb_4.ext K_22
  replace ho_9 := ho_9.ext K_22
  replace K0 := K0.ext K_22
  refine RL.val (x_moveT rfl) ?_
  refine RL.val (x_extract rfl rfl) ?_
  refine RL.val (x_extract rfl rfl) ?_
  refine RL.val (x_extract rfl rfl) ?_
  refine RL.val (x_assignI rfl) ?_
  refine RL.val (x_assignI rfl) ?_
  refine RL.val (x_assignI rfl) ?_
  refine RL.nil ?_
  refine Run.seq ?_
  refine Run.seq ?_
  refine Run.region ?_
  refine RL.val (x_moveI rfl) ?_
  refine RL.val (litF (x_neI rfl rfl) (by decide)) ?_
  refine RL.val (x_moveB rfl) ?_
  refine RL.gst (wantedF1 rfl rfl rfl rfl) <| St1.val (x_moveI rfl) ?_
  refine RL.gst (wantedF1 rfl rfl rfl rfl) <| St1.val (litF (x_neI rfl rfl) (by decide)) ?_
  refine RL.val (x_orF rfl rfl rfl) ?_
  refine RL.val (x_moveB rfl) ?_
  refine RL.gst (wantedF1 rfl rfl rfl rfl) <| St1.val (x_moveSl rfl) ?_
  refine RL.gst (wantedF1 rfl rfl rfl rfl) <| St1.val (litI (c := 0) (x_lenSl Try.underlying26 rfl) rfl) ?_
  refine RL.gst (wantedF1 rfl rfl rfl rfl) <| St1.val (x_moveI rfl) ?_
  refine RL.gst (wantedF1 rfl rfl rfl rfl) <| St1.val (litI (c := 0) (x_add rfl rfl (by decide) (by decide)) (by decide)) ?_
  refine RL.gst (wantedF1 rfl rfl rfl rfl) <| St1.val (x_moveI rfl) ?_
  refine RL.gst (wantedF1 rfl rfl rfl rfl) <| St1.val (litI (c := 0) (x_add rfl rfl (by decide) (by decide)) (by decide)) ?_
  refine RL.gst (wantedF1 rfl rfl rfl rfl) <| St1.val (litF (x_neI rfl rfl) (by decide)) ?_
  refine RL.val (x_orF rfl rfl rfl) ?_
  refine RL.val (x_moveB rfl) ?_
  refine RL.gst (wantedF1 rfl rfl rfl rfl) <| St1.val (x_moveP rfl) ?_
  refine RL.gst (wantedF1 rfl rfl rfl rfl) <| St1.val (x_moveS rfl) ?_
  refine RL.gst (wantedF1 rfl rfl rfl rfl) <| St1.val (x_moveSl rfl) ?_
  refine RL.gst (wantedF1 rfl rfl rfl rfl) <| St1.call (vals := [.pointer none, .string (s0), .slice (a2) (n2) (c2)]) en19 rfl (Append_nil s0 a2 n2 c2 _) ?_
  rintro _ w_23 ⟨rfl, K_24⟩
  replace hb_4 := hb_4.ext K_24
  replace ho_9 := ho_9.ext K_24
  replace K0 := K0.ext K_24
  refine RL.gst (wantedF1 rfl rfl rfl rfl) <| St1.val (litF (x_neI rfl rfl) (by decide)) ?_
  refine RL.val (x_orF rfl rfl rfl) ?_
  refine RL.val (x_moveB rfl) ?_
  refine RL.gst (wantedF1 rfl rfl rfl rfl) <| St1.val (x_moveP rfl) ?_
  refine RL.gst (wantedF1 rfl rfl rfl rfl) <| St1.val (x_moveS rfl) ?_
  refine RL.gst (wantedF1 rfl rfl rfl rfl) <| St1.call (vals := [.pointer none, .string (s0)]) en20 rfl (Sync_nil s0 _) ?_
  rintro _ w_25 ⟨rfl, K_26⟩
  replace hb_4 := hb_4.ext K_26
  replace ho_9 := ho_9.ext K_26
  replace K0 := K0.ext K_26
  refine RL.gst (wantedF1 rfl rfl rfl rfl) <| St1.val (litF (x_neI rfl rfl) (by decide)) ?_
  refine RL.val (x_orF rfl rfl rfl) ?_
  refine RL.nil ?_
  refine Run.condF rfl ?_
  refine Run.skip ?_
  refine Run.seq ?_
  refine Run.seq ?_
  refine Run.region ?_
  refine RL.val (x_moveP rfl) ?_
  refine RL.val (x_moveS rfl) ?_
  refine RL.val (x_moveS rfl) ?_
  refine RL.st rfl <| St1.call (vals := [.pointer none, .string (s0), .string (s1)]) en21 rfl (Rename_nil s0 s1 _) ?_
  rintro _ w_27 ⟨rfl, K_28⟩
  replace hb_4 := hb_4.ext K_28
  replace ho_9 := ho_9.ext K_28
  replace K0 := K0.ext K_28
  refine RL.val (litF (x_neI rfl rfl) (by decide)) ?_
  refine RL.val (x_moveB rfl) ?_
  refine RL.gst (wantedF1 rfl rfl rfl rfl) <| St1.val (x_moveP rfl) ?_
  refine RL.gst (wantedF1 rfl rfl rfl rfl) <| St1.val (x_moveS rfl) ?_
  refine RL.gst (wantedF1 rfl rfl rfl rfl) <| St1.call (vals := [.pointer none, .string (s0)]) en22 rfl (Remove_nil s0 _) ?_
  rintro _ w_29 ⟨rfl, K_30⟩
  replace hb_4 := hb_4.ext K_30
  replace ho_9 := ho_9.ext K_30
  replace K0 := K0.ext K_30
  refine RL.gst (wantedF1 rfl rfl rfl rfl) <| St1.val (litF (x_neI rfl rfl) (by decide)) ?_
  refine RL.val (x_orF rfl rfl rfl) ?_
  refine RL.val (x_moveB rfl) ?_
  refine RL.gst (wantedF1 rfl rfl rfl rfl) <| St1.val (x_moveP rfl) ?_
  refine RL.gst (wantedF1 rfl rfl rfl rfl) <| St1.val (x_moveSl rfl) ?_
  refine RL.gst (wantedF1 rfl rfl rfl rfl) <| St1.call (vals := [.slice (a3) (ts.length) (c3)]) en24 rfl (tears_ _ ts _ pts _ (hs.ext K0) (ht.ext K0) (by omega)) ?_
  rintro _ w_34 ⟨a_31, c_32, cs_33, rfl, ho_35, hL_36, hcp_37, hg_38, hg_39, hpr_40, K_41⟩
  have pr_42 : ¬ own a_31 b_1 := notNew hg_38 hb_4.lt
  have pr_43 : ∀ q_, own a_31 q_ → ¬ own (some ⟨b_6, 0, none⟩) q_ := apartNew hg_38 ho_9.own_lt
  have pg_44 : ∀ q_, own a_31 q_ → w.heap.size ≤ q_ := fun q_ h => Nat.le_trans K0.size (hg_38 q_ h)
  have pr_45 : ¬ leftS (cs_33.map CT.l) b_1 := notNew hg_39 hb_4.lt
  have pr_46 : ∀ q_, leftS (cs_33.map CT.l) q_ → ¬ own (some ⟨b_6, 0, none⟩) q_ := apartNew hg_39 ho_9.own_lt
  have pg_47 : ∀ q_, leftS (cs_33.map CT.l) q_ → w.heap.size ≤ q_ := fun q_ h => Nat.le_trans K0.size (hg_39 q_ h)
  clear hg_38 hg_39
  replace hb_4 := hb_4.ext K_41
  replace ho_9 := ho_9.ext K_41
  replace K0 := K0.ext K_41
  have hcl_cs_33 : (cs_33.map CT.t).length = pts.length := by rw [← hcp_37]; simp
  refine RL.gst (wantedF1 rfl rfl rfl rfl) <| St1.call (vals := [.pointer none, .slice (a_31) ((cs_33.map CT.t).length) (c_32)]) en23 rfl (Crash_nil a_31 ((cs_33.map CT.t).length) c_32 _) ?_
  rintro _ w_48 ⟨rfl, K_49⟩
  replace hb_4 := hb_4.ext K_49
  replace ho_9 := ho_9.ext K_49
  replace ho_35 := ho_35.ext K_49
  replace hL_36 := hL_36.ext K_49
  replace K0 := K0.ext K_49
  refine RL.gst (wantedF1 rfl rfl rfl rfl) <| St1.val (litF (x_neI rfl rfl) (by decide)) ?_
  refine RL.val (x_orF rfl rfl rfl) ?_
  refine RL.val (x_moveB rfl) ?_
  refine RL.gst (wantedF1 rfl rfl rfl rfl) <| St1.val (x_moveP rfl) ?_
  refine RL.gst (wantedF1 rfl rfl rfl rfl) <| St1.call (vals := [.pointer none]) en25 rfl (Wipe_nil  _) ?_
  rintro _ w_50 ⟨rfl, K_51⟩
  replace hb_4 := hb_4.ext K_51
  replace ho_9 := ho_9.ext K_51
  replace ho_35 := ho_35.ext K_51
  replace hL_36 := hL_36.ext K_51
  replace K0 := K0.ext K_51
  refine RL.gst (wantedF1 rfl rfl rfl rfl) <| St1.val (litF (x_neI rfl rfl) (by decide)) ?_
  refine RL.val (x_orF rfl rfl rfl) ?_
  refine RL.nil ?_
  refine Run.condF rfl ?_
  refine Run.skip ?_
  refine Run.seq ?_
  refine Run.region ?_
  refine RL.val (x_moveP rfl) ?_
  refine RL.st rfl <| St1.call (vals := [.pointer none]) en17 rfl (Files_nil  _) ?_
  rintro _ w_52 ⟨rfl, K_53⟩
  replace hb_4 := hb_4.ext K_53
  replace ho_9 := ho_9.ext K_53
  replace ho_35 := ho_35.ext K_53
  replace hL_36 := hL_36.ext K_53
  replace K0 := K0.ext K_53
  refine RL.val (litI (c := 0) (x_lenSl Try.underlying40 rfl) rfl) ?_
  refine RL.val (x_moveP rfl) ?_
  refine RL.st rfl <| St1.call (vals := [.pointer none]) en26 rfl (Used_nil  _) ?_
  rintro _ w_54 ⟨rfl, K_55⟩
  replace hb_4 := hb_4.ext K_55
  replace ho_9 := ho_9.ext K_55
  replace ho_35 := ho_35.ext K_55
  replace hL_36 := hL_36.ext K_55
  replace K0 := K0.ext K_55
  refine RL.val (litI (c := 0) (x_add rfl rfl (by decide) (by decide)) (by decide)) ?_
  refine RL.val (x_moveP rfl) ?_
  refine RL.st rfl <| St1.call (vals := [.pointer none]) en27 rfl (Room_nil  _) ?_
  rintro _ w_56 ⟨rfl, K_57⟩
  replace hb_4 := hb_4.ext K_57
  replace ho_9 := ho_9.ext K_57
  replace ho_35 := ho_35.ext K_57
  replace hL_36 := hL_36.ext K_57
  replace K0 := K0.ext K_57
  refine RL.val (litI (c := 0) (x_add rfl rfl (by decide) (by decide)) (by decide)) ?_
  refine RL.val (litF (x_neI rfl rfl) (by decide)) ?_
  refine RL.val (x_moveB rfl) ?_
  refine RL.gst (wantedF1 rfl rfl rfl rfl) <| St1.val (x_moveP rfl) ?_
  refine RL.gst (wantedF1 rfl rfl rfl rfl) <| St1.call (vals := [.pointer none]) en16 rfl (Copy_nil  _) ?_
  rintro _ w_58 ⟨rfl, K_59⟩
  replace hb_4 := hb_4.ext K_59
  replace ho_9 := ho_9.ext K_59
  replace ho_35 := ho_35.ext K_59
  replace hL_36 := hL_36.ext K_59
  replace K0 := K0.ext K_59
  refine RL.gst (wantedF1 rfl rfl rfl rfl) <| St1.val (litF (x_ptrNotNil Try.underlying23 rfl rfl) rfl) ?_
  refine RL.val (x_orF rfl rfl rfl) ?_
  refine RL.nil ?_
  refine Run.condF rfl ?_
  refine Run.skip ?_
  refine Run.inBlock ?_
  refine Run.region ?_
  refine RL.val (litI (c := 1) (x_add rfl rfl (by decide) (by decide)) (by decide)) ?_
  refine RL.val (x_moveI rfl) ?_
  refine RL.nil ?_
  refine Run.inLoop ?_
  refine Run.seq ?_
  refine Run.region ?_
  refine RL.val (litT (x_ltI rfl rfl) (by decide)) ?_
  refine RL.nil ?_
  refine Run.seq ?_
  refine Run.condT rfl ?_
  refine Run.skip ?_
  refine Run.seq ?_
  refine Run.block ?_
  refine Run.seq ?_
  refine Run.region ?_
  obtain ⟨b_60, o_61, x_64, hx_65, ha_62, hc_63⟩ := ho_9.sl.el (i := 1) (by simp)
  obtain rfl : some (⟨b_1, 0, none⟩ : Addr) = x_64 := Option.some.inj hx_65
  refine RL.val (x_idxN Try.underlying46 ty23 rfl rfl ha_62 (by simp)) ?_
  refine RL.val (x_ldV (v := .pointer (some ⟨b_1, 0, none⟩)) (y := some (⟨b_1, 0, none⟩ : Addr)) ty23 rfl hc_63 rfl) ?_
  refine RL.val (x_assignP rfl) ?_
  refine RL.nil ?_
  refine Run.seq ?_
  refine Run.region ?_
  refine RL.val (x_moveP rfl) ?_
  refine RL.val (x_moveS rfl) ?_
  refine RL.st rfl <| St1.call (vals := [.pointer (some ⟨b_1, 0, none⟩), .string (s0)]) en12 rfl (Read_zero _ s0 _ hb_4) ?_
  rintro _ w_66 ⟨rfl, K_67⟩
  replace hb_4 := hb_4.ext K_67
  replace ho_9 := ho_9.ext K_67
  replace ho_35 := ho_35.ext K_67
  replace hL_36 := hL_36.ext K_67
  replace K0 := K0.ext K_67
  refine RL.val (x_moveT rfl) ?_
  refine RL.val (x_extract rfl rfl) ?_
  refine RL.val (x_extract rfl rfl) ?_
  refine RL.val (x_assignSl rfl) ?_
  refine RL.val (x_assignI rfl) ?_
  refine RL.nil ?_
  refine Run.seq ?_
  refine Run.region ?_
  refine RL.val (x_moveP rfl) ?_
  refine RL.val (x_moveS rfl) ?_
  refine RL.st rfl <| St1.call (vals := [.pointer (some ⟨b_1, 0, none⟩), .string (s0)]) en13 rfl (Size_zero _ s0 _ hb_4) ?_
  rintro _ w_68 ⟨rfl, K_69⟩
  replace hb_4 := hb_4.ext K_69
  replace ho_9 := ho_9.ext K_69
  replace ho_35 := ho_35.ext K_69
  replace hL_36 := hL_36.ext K_69
  replace K0 := K0.ext K_69
  refine RL.val (x_moveT rfl) ?_
  refine RL.val (x_extract rfl rfl) ?_
  refine RL.val (x_extract rfl rfl) ?_
  refine RL.val (x_extract rfl rfl) ?_
  refine RL.val (x_assignI rfl) ?_
  refine RL.val (x_assignI rfl) ?_
  refine RL.val (x_assignI rfl) ?_
  refine RL.nil ?_
  refine Run.seq ?_
  refine Run.seq ?_
  refine Run.region ?_
  refine RL.val (x_moveI rfl) ?_
  refine RL.val (litF (x_neI rfl rfl) (by decide)) ?_
  refine RL.val (x_moveB rfl) ?_
  refine RL.gst (wantedF1 rfl rfl rfl rfl) <| St1.val (x_moveI rfl) ?_
  refine RL.gst (wantedF1 rfl rfl rfl rfl) <| St1.val (litF (x_neI rfl rfl) (by decide)) ?_
  refine RL.val (x_orF rfl rfl rfl) ?_
  refine RL.val (x_moveB rfl) ?_
  refine RL.gst (wantedF1 rfl rfl rfl rfl) <| St1.val (x_moveSl rfl) ?_
  refine RL.gst (wantedF1 rfl rfl rfl rfl) <| St1.val (litI (c := 0) (x_lenSl Try.underlying26 rfl) rfl) ?_
  refine RL.gst (wantedF1 rfl rfl rfl rfl) <| St1.val (x_moveI rfl) ?_
  refine RL.gst (wantedF1 rfl rfl rfl rfl) <| St1.val (litI (c := 0) (x_add rfl rfl (by decide) (by decide)) (by decide)) ?_
  refine RL.gst (wantedF1 rfl rfl rfl rfl) <| St1.val (x_moveI rfl) ?_
  refine RL.gst (wantedF1 rfl rfl rfl rfl) <| St1.val (litI (c := 0) (x_add rfl rfl (by decide) (by decide)) (by decide)) ?_
  refine RL.gst (wantedF1 rfl rfl rfl rfl) <| St1.val (litF (x_neI rfl rfl) (by decide)) ?_
  refine RL.val (x_orF rfl rfl rfl) ?_
  refine RL.val (x_moveB rfl) ?_
  refine RL.gst (wantedF1 rfl rfl rfl rfl) <| St1.val (x_moveP rfl) ?_
  refine RL.gst (wantedF1 rfl rfl rfl rfl) <| St1.val (x_moveS rfl) ?_
  refine RL.gst (wantedF1 rfl rfl rfl rfl) <| St1.val (x_moveSl rfl) ?_
  refine RL.gst (wantedF1 rfl rfl rfl rfl) <| St1.call (vals := [.pointer (some ⟨b_1, 0, none⟩), .string (s0), .slice (a2) (n2) (c2)]) en19 rfl (Append_zero _ s0 a2 n2 c2 _ hb_4) ?_
  rintro _ w_70 ⟨rfl, K_71⟩
  replace hb_4 := hb_4.ext K_71
  replace ho_9 := ho_9.ext K_71
  replace ho_35 := ho_35.ext K_71
  replace hL_36 := hL_36.ext K_71
  replace K0 := K0.ext K_71
  refine RL.gst (wantedF1 rfl rfl rfl rfl) <| St1.val (litF (x_neI rfl rfl) (by decide)) ?_
  refine RL.val (x_orF rfl rfl rfl) ?_
  refine RL.val (x_moveB rfl) ?_
  refine RL.gst (wantedF1 rfl rfl rfl rfl) <| St1.val (x_moveP rfl) ?_
  refine RL.gst (wantedF1 rfl rfl rfl rfl) <| St1.val (x_moveS rfl) ?_
  refine RL.gst (wantedF1 rfl rfl rfl rfl) <| St1.call (vals := [.pointer (some ⟨b_1, 0, none⟩), .string (s0)]) en20 rfl (Sync_zero _ s0 _ hb_4) ?_
  rintro _ w_72 ⟨rfl, K_73⟩
  replace hb_4 := hb_4.ext K_73
  replace ho_9 := ho_9.ext K_73
  replace ho_35 := ho_35.ext K_73
  replace hL_36 := hL_36.ext K_73
  replace K0 := K0.ext K_73
  refine RL.gst (wantedF1 rfl rfl rfl rfl) <| St1.val (litF (x_neI rfl rfl) (by decide)) ?_
  refine RL.val (x_orF rfl rfl rfl) ?_
  refine RL.nil ?_
  refine Run.condF rfl ?_
  refine Run.skip ?_
  refine Run.seq ?_
  refine Run.seq ?_
  refine Run.region ?_
  refine RL.val (x_moveP rfl) ?_
  refine RL.val (x_moveS rfl) ?_
  refine RL.val (x_moveS rfl) ?_
  refine RL.st rfl <| St1.call (vals := [.pointer (some ⟨b_1, 0, none⟩), .string (s0), .string (s1)]) en21 rfl (Rename_zero _ s0 s1 _ hb_4) ?_
  rintro _ w_74 ⟨rfl, K_75⟩
  replace hb_4 := hb_4.ext K_75
  replace ho_9 := ho_9.ext K_75
  replace ho_35 := ho_35.ext K_75
  replace hL_36 := hL_36.ext K_75
  replace K0 := K0.ext K_75
  refine RL.val (litF (x_neI rfl rfl) (by decide)) ?_
  refine RL.val (x_moveB rfl) ?_
  refine RL.gst (wantedF1 rfl rfl rfl rfl) <| St1.val (x_moveP rfl) ?_
  refine RL.gst (wantedF1 rfl rfl rfl rfl) <| St1.val (x_moveS rfl) ?_
  refine RL.gst (wantedF1 rfl rfl rfl rfl) <| St1.call (vals := [.pointer (some ⟨b_1, 0, none⟩), .string (s0)]) en22 rfl (Remove_zero _ s0 _ hb_4) ?_
  rintro _ w_76 ⟨rfl, K_77⟩
  replace hb_4 := hb_4.ext K_77
  replace ho_9 := ho_9.ext K_77
  replace ho_35 := ho_35.ext K_77
  replace hL_36 := hL_36.ext K_77
  replace K0 := K0.ext K_77
  refine RL.gst (wantedF1 rfl rfl rfl rfl) <| St1.val (litF (x_neI rfl rfl) (by decide)) ?_
  refine RL.val (x_orF rfl rfl rfl) ?_
  refine RL.val (x_moveB rfl) ?_
  refine RL.gst (wantedF1 rfl rfl rfl rfl) <| St1.val (x_moveP rfl) ?_
  refine RL.gst (wantedF1 rfl rfl rfl rfl) <| St1.val (x_moveSl rfl) ?_
  refine RL.gst (wantedF1 rfl rfl rfl rfl) <| St1.call (vals := [.slice (a3) (ts.length) (c3)]) en24 rfl (tears_ _ ts _ pts _ (hs.ext K0) (ht.ext K0) (by omega)) ?_
  rintro _ w_81 ⟨a_78, c_79, cs_80, rfl, ho_82, hL_83, hcp_84, hg_85, hg_86, hpr_87, K_88⟩
  have pr_89 : ¬ own a_78 b_1 := notNew hg_85 hb_4.lt
  have pr_90 : ∀ q_, own a_78 q_ → ¬ own (some ⟨b_6, 0, none⟩) q_ := apartNew hg_85 ho_9.own_lt
  have pr_91 : ∀ q_, own a_78 q_ → ¬ own a_31 q_ := apartNew hg_85 ho_35.own_lt
  have pr_92 : ∀ q_, own a_78 q_ → ¬ leftS (cs_33.map CT.l) q_ := apartNew hg_85 hL_36.own_lt
  have pg_93 : ∀ q_, own a_78 q_ → w.heap.size ≤ q_ := fun q_ h => Nat.le_trans K0.size (hg_85 q_ h)
  have pr_94 : ¬ leftS (cs_80.map CT.l) b_1 := notNew hg_86 hb_4.lt
  have pr_95 : ∀ q_, leftS (cs_80.map CT.l) q_ → ¬ own (some ⟨b_6, 0, none⟩) q_ := apartNew hg_86 ho_9.own_lt
  have pr_96 : ∀ q_, leftS (cs_80.map CT.l) q_ → ¬ own a_31 q_ := apartNew hg_86 ho_35.own_lt
  have pr_97 : ∀ q_, leftS (cs_80.map CT.l) q_ → ¬ leftS (cs_33.map CT.l) q_ := apartNew hg_86 hL_36.own_lt
  have pg_98 : ∀ q_, leftS (cs_80.map CT.l) q_ → w.heap.size ≤ q_ := fun q_ h => Nat.le_trans K0.size (hg_86 q_ h)
  clear hg_85 hg_86
  replace hb_4 := hb_4.ext K_88
  replace ho_9 := ho_9.ext K_88
  replace ho_35 := ho_35.ext K_88
  replace hL_36 := hL_36.ext K_88
  replace K0 := K0.ext K_88
  have hcl_cs_80 : (cs_80.map CT.t).length = pts.length := by rw [← hcp_84]; simp
  refine RL.gst (wantedF1 rfl rfl rfl rfl) <| St1.call (vals := [.pointer (some ⟨b_1, 0, none⟩), .slice (a_78) ((cs_80.map CT.t).length) (c_79)]) en23 rfl (Crash_zero _ a_78 ((cs_80.map CT.t).length) c_79 _ hb_4) ?_
  rintro _ w_99 ⟨rfl, K_100⟩
  replace hb_4 := hb_4.ext K_100
  replace ho_9 := ho_9.ext K_100
  replace ho_35 := ho_35.ext K_100
  replace hL_36 := hL_36.ext K_100
  replace ho_82 := ho_82.ext K_100
  replace hL_83 := hL_83.ext K_100
  replace K0 := K0.ext K_100
  refine RL.gst (wantedF1 rfl rfl rfl rfl) <| St1.val (litF (x_neI rfl rfl) (by decide)) ?_
  refine RL.val (x_orF rfl rfl rfl) ?_
  refine RL.val (x_moveB rfl) ?_
  refine RL.gst (wantedF1 rfl rfl rfl rfl) <| St1.val (x_moveP rfl) ?_
  refine RL.gst (wantedF1 rfl rfl rfl rfl) <| St1.call (vals := [.pointer (some ⟨b_1, 0, none⟩)]) en25 rfl (Wipe_zero _  _ hb_4) ?_
  rintro _ w_101 ⟨rfl, K_102⟩
  replace hb_4 := hb_4.ext K_102
  replace ho_9 := ho_9.ext K_102
  replace ho_35 := ho_35.ext K_102
  replace hL_36 := hL_36.ext K_102
  replace ho_82 := ho_82.ext K_102
  replace hL_83 := hL_83.ext K_102
  replace K0 := K0.ext K_102
  refine RL.gst (wantedF1 rfl rfl rfl rfl) <| St1.val (litF (x_neI rfl rfl) (by decide)) ?_
  refine RL.val (x_orF rfl rfl rfl) ?_
  refine RL.nil ?_
  refine Run.condF rfl ?_
  refine Run.skip ?_
  refine Run.seq ?_
  refine Run.region ?_
  refine RL.val (x_moveP rfl) ?_
  refine RL.st rfl <| St1.call (vals := [.pointer (some ⟨b_1, 0, none⟩)]) en17 rfl (Files_zero _  _ hb_4) ?_
  rintro _ w_103 ⟨rfl, K_104⟩
  replace hb_4 := hb_4.ext K_104
  replace ho_9 := ho_9.ext K_104
  replace ho_35 := ho_35.ext K_104
  replace hL_36 := hL_36.ext K_104
  replace ho_82 := ho_82.ext K_104
  replace hL_83 := hL_83.ext K_104
  replace K0 := K0.ext K_104
  refine RL.val (litI (c := 0) (x_lenSl Try.underlying40 rfl) rfl) ?_
  refine RL.val (x_moveP rfl) ?_
  refine RL.st rfl <| St1.call (vals := [.pointer (some ⟨b_1, 0, none⟩)]) en26 rfl (Used_zero _  _ hb_4) ?_
  rintro _ w_105 ⟨rfl, K_106⟩
  replace hb_4 := hb_4.ext K_106
  replace ho_9 := ho_9.ext K_106
  replace ho_35 := ho_35.ext K_106
  replace hL_36 := hL_36.ext K_106
  replace ho_82 := ho_82.ext K_106
  replace hL_83 := hL_83.ext K_106
  replace K0 := K0.ext K_106
  refine RL.val (litI (c := 0) (x_add rfl rfl (by decide) (by decide)) (by decide)) ?_
  refine RL.val (x_moveP rfl) ?_
  refine RL.st rfl <| St1.call (vals := [.pointer (some ⟨b_1, 0, none⟩)]) en27 rfl (Room_zero _  _ hb_4) ?_
  rintro _ w_107 ⟨rfl, K_108⟩
  replace hb_4 := hb_4.ext K_108
  replace ho_9 := ho_9.ext K_108
  replace ho_35 := ho_35.ext K_108
  replace hL_36 := hL_36.ext K_108
  replace ho_82 := ho_82.ext K_108
  replace hL_83 := hL_83.ext K_108
  replace K0 := K0.ext K_108
  refine RL.val (litI (c := 0) (x_add rfl rfl (by decide) (by decide)) (by decide)) ?_
  refine RL.val (litF (x_neI rfl rfl) (by decide)) ?_
  refine RL.val (x_moveB rfl) ?_
  refine RL.gst (wantedF1 rfl rfl rfl rfl) <| St1.val (x_moveP rfl) ?_
  refine RL.gst (wantedF1 rfl rfl rfl rfl) <| St1.call (vals := [.pointer (some ⟨b_1, 0, none⟩)]) en16 rfl (Copy_zero _  _ hb_4) ?_
  rintro _ w_109 ⟨rfl, K_110⟩
  replace hb_4 := hb_4.ext K_110
  replace ho_9 := ho_9.ext K_110
  replace ho_35 := ho_35.ext K_110
  replace hL_36 := hL_36.ext K_110
  replace ho_82 := ho_82.ext K_110
  replace hL_83 := hL_83.ext K_110
  replace K0 := K0.ext K_110
  refine RL.gst (wantedF1 rfl rfl rfl rfl) <| St1.val (litF (x_ptrNotNil Try.underlying23 rfl rfl) rfl) ?_
  refine RL.val (x_orF rfl rfl rfl) ?_
  refine RL.nil ?_
  refine Run.condF rfl ?_
  refine Run.skip ?_
  refine Run.inBlock ?_
  refine Run.region ?_
  refine RL.val (litI (c := 2) (x_add rfl rfl (by decide) (by decide)) (by decide)) ?_
  refine RL.val (x_moveI rfl) ?_
  refine RL.nil ?_
  refine Run.inLoop ?_
  refine Run.seq ?_
  refine Run.region ?_
  refine RL.val (litF (x_ltI rfl rfl) (by decide)) ?_
  refine RL.nil ?_
  refine Run.seq ?_
  refine Run.condF rfl ?_
  refine Run.exit rfl ?_
  refine Run.seq ?_
  refine Run.region ?_
  refine RL.st rfl <| St1.call (vals := []) en11 rfl (awake_ _) ?_
  rintro _ w_111 ⟨rfl, K_112⟩
  replace hb_4 := hb_4.ext K_112
  replace ho_9 := ho_9.ext K_112
  replace ho_35 := ho_35.ext K_112
  replace hL_36 := hL_36.ext K_112
  replace ho_82 := ho_82.ext K_112
  replace hL_83 := hL_83.ext K_112
  replace K0 := K0.ext K_112
  refine RL.val (x_assignB rfl) ?_
  refine RL.nil ?_
  refine Run.ret1 (v := .bool (true)) Try.func5 rfl rfl ?_
  exact ⟨_, rfl, rfl, K0⟩

end Go.Proofs.Ytambibdkanpmaaa
