/-
  SwimNone.
-/
import Derived.Test.YtagfdmdajmkddaaRows
import Derived.Test.YtagfdmdajmkddaaSg
namespace Go.Proofs.Ytagfdmdajmkddaa
attribute [local irreducible] St1 RL RA RT RT1 Run

open Sa
structure DoC where
  op : Int
  now : Int
  peers : SH
  kind : Int
  frm : Int
  req : Int
  owner : Int
  n : Int
instance : Enc DoC := Enc.struct (fun t => [.int .i64 t.op, .int .i64 t.now, .slice t.peers.a t.peers.len t.peers.cap, .int .i64 t.kind, .int .i64 t.frm, .int .i64 t.req, .int .i64 t.owner, .int .i64 t.n]) 8 (fun _ => rfl) (fun _ v hv => by simp at hv; rcases hv with rfl | rfl | rfl | rfl | rfl | rfl | rfl | rfl <;> rfl) (by decide)
def msgOf (o : DoC) (to : Int) : MsgC := mkMsg o.kind o.frm to o.req o.owner o.n

theorem ty28 : Ty Try.prog 28 1 8 (.pointer none) false := ty_of (by kernel_rfl) (by kernel_rfl)
theorem ty65 : Ty Try.prog 65 8 80 (.agg #[.int .i64 (0), .int .i64 (0), .slice (none) (0) (0), .int .i64 (0), .int .i64 (0), .int .i64 (0), .int .i64 (0), .int .i64 (0)]) true := ty_of (by kernel_rfl) (by kernel_rfl)
theorem en18 : Enters Try.prog 18 := enters_of Try.func18 rfl (by kernel_rfl)
theorem en23 : Enters Try.prog 23 := enters_of Try.func23 rfl (by kernel_rfl)
theorem en26 : Enters Try.prog 26 := enters_of Try.func26 rfl (by kernel_rfl)
theorem en27 : Enters Try.prog 27 := enters_of Try.func27 rfl (by kernel_rfl)

set_option maxRecDepth 100000 in
set_option maxHeartbeats 4000000 in
theorem msg_ (o : DoC) (to : Int) (w : World) :
    Calls Try.prog 27 #[.agg #[.int .i64 ((o).op), .int .i64 ((o).now), .slice ((o).peers.a) ((o).peers.len) ((o).peers.cap), .int .i64 ((o).kind), .int .i64 ((o).frm), .int .i64 ((o).req), .int .i64 ((o).owner), .int .i64 ((o).n)], .int .i64 (to)] w (Ret (fun v w' => v = Enc.val (msgOf o to) ∧ Ext w w')) := by
  refine calls_run (n := 17) Try.func27 rfl rfl rfl ?_
  refine Run.seq ?_
  refine Run.region ?_
  refine RL.st rfl <| St1.box (v := .agg #[.int .i64 ((o).op), .int .i64 ((o).now), .slice ((o).peers.a) ((o).peers.len) ((o).peers.cap), .int .i64 ((o).kind), .int .i64 ((o).frm), .int .i64 ((o).req), .int .i64 ((o).owner), .int .i64 ((o).n)]) rfl ?_
  intro b_1 w_2 hl_5 hb_4 K_3
  replace hb_4 : Blk w_2 b_1 [.int .i64 ((o).op), .int .i64 ((o).now), .slice ((o).peers.a) ((o).peers.len) ((o).peers.cap), .int .i64 ((o).kind), .int .i64 ((o).frm), .int .i64 ((o).req), .int .i64 ((o).owner), .int .i64 ((o).n)] 65 := hb_4
  have : w.heap.size ≤ b_1 := hl_5
  clear hl_5
  have K0 := (K_3 : Ext w _)
  refine RL.st rfl <| St1.alloc ty61 ?_
  intro b_6 w_7 hl_10 hb_9 K_8
  replace hb_9 : Blk w_7 b_6 [.int .i64 (0), .int .i64 (0), .int .i64 (0), .int .i64 (0), .string (⟨#[]⟩), .slice (none) (0) (0), .slice (none) (0) (0), .slice (none) (0) (0), .int .i64 (0), .int .i64 (0), .int .i64 (0), .int .i64 (0), .int .i64 (0), .int .i64 (0), .slice (none) (0) (0), .slice (none) (0) (0), .slice (none) (0) (0)] 61 := hb_9
  have ne_11 : b_1 < b_6 := Nat.lt_of_lt_of_le hb_4.lt hl_10
  have : w.heap.size ≤ b_6 := Nat.le_trans K0.size hl_10
  clear hl_10
  replace hb_4 := hb_4.ext K_8
  replace K0 := K0.ext K_8
  refine RL.nil ?_
  refine Run.seq ?_
  refine Run.region ?_
  refine RL.val (x_fld (o' := 3) Try.underlying65 rfl ty3 rfl rfl rfl) ?_
  refine RL.val (x_ld (v := .int .i64 ((o).kind)) ty3 rfl rfl (hb_4.cl.field (i := 3) rfl)) ?_
  refine RL.val (x_fld (o' := 4) Try.underlying65 rfl ty3 rfl rfl rfl) ?_
  refine RL.val (x_ld (v := .int .i64 ((o).frm)) ty3 rfl rfl (hb_4.cl.field (i := 4) rfl)) ?_
  refine RL.val (x_moveI rfl) ?_
  refine RL.val (x_fld (o' := 5) Try.underlying65 rfl ty3 rfl rfl rfl) ?_
  refine RL.val (x_ld (v := .int .i64 ((o).req)) ty3 rfl rfl (hb_4.cl.field (i := 5) rfl)) ?_
  refine RL.val (x_fld (o' := 6) Try.underlying65 rfl ty3 rfl rfl rfl) ?_
  refine RL.val (x_ld (v := .int .i64 ((o).owner)) ty3 rfl rfl (hb_4.cl.field (i := 6) rfl)) ?_
  refine RL.val (x_fld (o' := 7) Try.underlying65 rfl ty3 rfl rfl rfl) ?_
  refine RL.val (x_ld (v := .int .i64 ((o).n)) ty3 rfl rfl (hb_4.cl.field (i := 7) rfl)) ?_
  refine RL.val (x_build (cells := #[.int .i64 ((o).kind), .int .i64 ((o).frm), .int .i64 (to), .int .i64 ((o).req), .string (⟨#[]⟩), .slice (none) (0) (0), .slice (none) (0) (0), .slice (none) (0) (0), .int .i64 ((o).owner), .int .i64 (0), .int .i64 ((o).n), .int .i64 (0), .int .i64 (0), .int .i64 (0), .slice (none) (0) (0), .slice (none) (0) (0), .slice (none) (0) (0)]) (by kernel_rfl)) ?_
  refine RL.st rfl <| St1.store (v := .agg #[.int .i64 ((o).kind), .int .i64 ((o).frm), .int .i64 (to), .int .i64 ((o).req), .string (⟨#[]⟩), .slice (none) (0) (0), .slice (none) (0) (0), .slice (none) (0) (0), .int .i64 ((o).owner), .int .i64 (0), .int .i64 ((o).n), .int .i64 (0), .int .i64 (0), .int .i64 (0), .slice (none) (0) (0), .slice (none) (0) (0), .slice (none) (0) (0)]) ty61 rfl rfl rfl (by simp [Value.cells, Value.oneCell']) hb_9 (by simp) ?_
  intro w_12 hb_9_ K_13
  have hb_9' : Blk w_12 b_6 [.int .i64 ((o).kind), .int .i64 ((o).frm), .int .i64 (to), .int .i64 ((o).req), .string (⟨#[]⟩), .slice (none) (0) (0), .slice (none) (0) (0), .slice (none) (0) (0), .int .i64 ((o).owner), .int .i64 (0), .int .i64 ((o).n), .int .i64 (0), .int .i64 (0), .int .i64 (0), .slice (none) (0) (0), .slice (none) (0) (0), .slice (none) (0) (0)] 61 := hb_9_
  clear hb_9_
  replace hb_4 := hb_4.keep K_13 (by simp only [one]; omega)
  replace K0 := K0.new K_13 (fun x hx => by simp only [one] at hx; omega)
  replace hb_9 := hb_9'
  clear hb_9'
  refine RL.nil ?_
  refine Run.retC (cs := #[.int .i64 ((o).kind), .int .i64 ((o).frm), .int .i64 (to), .int .i64 ((o).req), .string (⟨#[]⟩), .slice (none) (0) (0), .slice (none) (0) (0), .slice (none) (0) (0), .int .i64 ((o).owner), .int .i64 (0), .int .i64 ((o).n), .int .i64 (0), .int .i64 (0), .int .i64 (0), .slice (none) (0) (0), .slice (none) (0) (0), .slice (none) (0) (0)]) Try.func27 rfl ty61 rfl rfl hb_9.cl ?_
  exact ⟨_, rfl, rfl, K0⟩

set_option maxRecDepth 100000 in
set_option maxHeartbeats 4000000 in
theorem there_nil  (w : World) :
    Calls Try.prog 38 #[.pointer none] w (Ret (fun v w' => v = .bool (false) ∧ Ext w w')) := by
  refine calls_run (n := 11) Try.func38 rfl rfl rfl ?_
  refine Run.seq ?_
  refine Run.region ?_
  refine RL.val (x_assignB rfl) ?_
  refine RL.nil ?_
  refine Run.seq ?_
  refine Run.region ?_
  refine RL.val (x_moveP rfl) ?_
  refine RL.val (litF (x_ptrNotNil Try.underlying28 rfl rfl) rfl) ?_
  refine RL.val (x_moveB rfl) ?_
  refine RL.guardF (wantedT0 rfl rfl rfl rfl) ?_
  refine RL.guardF (wantedT0 rfl rfl rfl rfl) ?_
  refine RL.guardF (wantedT0 rfl rfl rfl rfl) ?_
  refine RL.guardF (wantedT0 rfl rfl rfl rfl) ?_
  refine RL.val (x_and (b := false) (e := false) rfl rfl rfl) ?_
  refine RL.val (x_assignB rfl) ?_
  refine RL.nil ?_
  refine Run.ret1 (v := .bool (false)) Try.func38 rfl rfl ?_
  exact ⟨_, rfl, rfl, (Keeps.refl _ w)⟩

set_option maxRecDepth 100000 in
set_option maxHeartbeats 4000000 in
theorem there_zero (b : Nat)  (w : World) (hb : Blk w b [.bool (false), .int .i64 (0), .int .i64 (0), .int .i64 (0), .int .i64 (0), .int .i64 (0), .int .i64 (0), .int .i64 (0), .int .i64 (0), .int .i64 (0), .int .i64 (0), .int .i64 (0), .int .i64 (0), .int .i64 (0), .int .i64 (0), .int .i64 (0), .int .i64 (0), .int .i64 (0), .int .i64 (0), .int .i64 (0), .int .i64 (0), .int .i64 (0), .int .i64 (0), .int .i64 (0), .int .i64 (0), .int .i64 (0), .int .i64 (0), .int .i64 (0), .int .i64 (0), .int .i64 (0), .int .i64 (0), .int .i64 (0), .int .i64 (0), .int .i64 (0), .int .i64 (0), .slice (none) (0) (0), .int .i64 (0), .bool (false), .int .i64 (0), .int .i64 (0)] 71) :
    Calls Try.prog 38 #[.pointer (some ⟨b, 0, none⟩)] w (Ret (fun v w' => v = .bool (false) ∧ Ext w w')) := by
  refine calls_run (n := 11) Try.func38 rfl rfl rfl ?_
  refine Run.seq ?_
  refine Run.region ?_
  refine RL.val (x_assignB rfl) ?_
  refine RL.nil ?_
  refine Run.seq ?_
  refine Run.region ?_
  refine RL.val (x_moveP rfl) ?_
  refine RL.val (litT (x_ptrNotNil Try.underlying28 rfl rfl) rfl) ?_
  refine RL.val (x_moveB rfl) ?_
  refine RL.gst (wantedT1 rfl rfl rfl rfl) <| St1.val (x_moveP rfl) ?_
  refine RL.gst (wantedT1 rfl rfl rfl rfl) <| St1.val (x_nilCheck rfl) ?_
  refine RL.gst (wantedT1 rfl rfl rfl rfl) <| St1.val (x_fld (o' := 0) Try.underlying71 rfl ty4 rfl rfl rfl) ?_
  refine RL.gst (wantedT1 rfl rfl rfl rfl) <| St1.val (x_ld (v := .bool (false)) ty4 rfl rfl (hb.cl.field (i := 0) rfl)) ?_
  refine RL.val (x_andT rfl rfl rfl) ?_
  refine RL.val (x_assignB rfl) ?_
  refine RL.nil ?_
  refine Run.ret1 (v := .bool (false)) Try.func38 rfl rfl ?_
  exact ⟨_, rfl, rfl, (Keeps.refl _ w)⟩

set_option maxRecDepth 100000 in
set_option maxHeartbeats 4000000 in
theorem Tick_nil (t : Int) (w : World) :
    Calls Try.prog 16 #[.pointer none, .int .i64 (t)] w (Ret (fun v w' => v = .tuple #[.slice (none) (0) (0), .slice (none) (0) (0)] ∧ Ext w w')) := by
  refine calls_run (n := 29) Try.func16 rfl rfl rfl ?_
  refine Run.seq ?_
  refine Run.region ?_
  refine RL.val (x_assignSl rfl) ?_
  refine RL.val (x_assignSl rfl) ?_
  refine RL.nil ?_
  refine Run.seq ?_
  refine Run.seq ?_
  refine Run.region ?_
  refine RL.val (x_moveP rfl) ?_
  refine RL.st rfl <| St1.call (vals := [.pointer none]) en38 rfl (there_nil  _) ?_
  rintro _ w_1 ⟨rfl, K_2⟩
  have K0 := (K_2 : Ext w _)
  refine RL.val (x_not rfl) ?_
  refine RL.nil ?_
  refine Run.condT rfl ?_
  refine Run.seq ?_
  refine Run.region ?_
  refine RL.val (x_assignSl rfl) ?_
  refine RL.val (x_assignSl rfl) ?_
  refine RL.nil ?_
  refine Run.ret2 (v := .slice (none) (0) (0)) (x := .slice (none) (0) (0)) Try.func16 rfl rfl rfl ?_
  exact ⟨_, rfl, rfl, K0⟩

set_option maxRecDepth 100000 in
set_option maxHeartbeats 4000000 in
theorem Tick_zero (b : Nat) (t : Int) (w : World) (hb : Blk w b [.bool (false), .int .i64 (0), .int .i64 (0), .int .i64 (0), .int .i64 (0), .int .i64 (0), .int .i64 (0), .int .i64 (0), .int .i64 (0), .int .i64 (0), .int .i64 (0), .int .i64 (0), .int .i64 (0), .int .i64 (0), .int .i64 (0), .int .i64 (0), .int .i64 (0), .int .i64 (0), .int .i64 (0), .int .i64 (0), .int .i64 (0), .int .i64 (0), .int .i64 (0), .int .i64 (0), .int .i64 (0), .int .i64 (0), .int .i64 (0), .int .i64 (0), .int .i64 (0), .int .i64 (0), .int .i64 (0), .int .i64 (0), .int .i64 (0), .int .i64 (0), .int .i64 (0), .slice (none) (0) (0), .int .i64 (0), .bool (false), .int .i64 (0), .int .i64 (0)] 71) :
    Calls Try.prog 16 #[.pointer (some ⟨b, 0, none⟩), .int .i64 (t)] w (Ret (fun v w' => v = .tuple #[.slice (none) (0) (0), .slice (none) (0) (0)] ∧ Ext w w')) := by
  refine calls_run (n := 29) Try.func16 rfl rfl rfl ?_
  refine Run.seq ?_
  refine Run.region ?_
  refine RL.val (x_assignSl rfl) ?_
  refine RL.val (x_assignSl rfl) ?_
  refine RL.nil ?_
  refine Run.seq ?_
  refine Run.seq ?_
  refine Run.region ?_
  refine RL.val (x_moveP rfl) ?_
  refine RL.st rfl <| St1.call (vals := [.pointer (some ⟨b, 0, none⟩)]) en38 rfl (there_zero _  _ hb) ?_
  rintro _ w_1 ⟨rfl, K_2⟩
  replace hb := hb.ext K_2
  have K0 := (K_2 : Ext w _)
  refine RL.val (x_not rfl) ?_
  refine RL.nil ?_
  refine Run.condT rfl ?_
  refine Run.seq ?_
  refine Run.region ?_
  refine RL.val (x_assignSl rfl) ?_
  refine RL.val (x_assignSl rfl) ?_
  refine RL.nil ?_
  refine Run.ret2 (v := .slice (none) (0) (0)) (x := .slice (none) (0) (0)) Try.func16 rfl rfl rfl ?_
  exact ⟨_, rfl, rfl, K0⟩

set_option maxRecDepth 100000 in
set_option maxHeartbeats 4000000 in
theorem On_nil (m : MsgC) (t : Int) (w : World) :
    Calls Try.prog 26 #[.pointer none, .agg #[.int .i64 ((m).kind), .int .i64 ((m).frm), .int .i64 ((m).to), .int .i64 ((m).req), .string ((m).key), .slice ((m).entries.a) ((m).entries.len) ((m).entries.cap), .slice ((m).marks.a) ((m).marks.len) ((m).marks.cap), .slice ((m).cloud.a) ((m).cloud.len) ((m).cloud.cap), .int .i64 ((m).owner), .int .i64 ((m).part), .int .i64 ((m).n), .int .i64 ((m).rparts), .int .i64 ((m).rcopies), .int .i64 ((m).rspots), .slice ((m).members.a) ((m).members.len) ((m).members.cap), .slice ((m).peers.a) ((m).peers.len) ((m).peers.cap), .slice ((m).sums.a) ((m).sums.len) ((m).sums.cap)], .int .i64 (t)] w (Ret (fun v w' => v = .tuple #[.slice (none) (0) (0), .slice (none) (0) (0)] ∧ Ext w w')) := by
  refine calls_run (n := 71) Try.func26 rfl rfl rfl ?_
  refine Run.seq ?_
  refine Run.region ?_
  refine RL.st rfl <| St1.box (v := .agg #[.int .i64 ((m).kind), .int .i64 ((m).frm), .int .i64 ((m).to), .int .i64 ((m).req), .string ((m).key), .slice ((m).entries.a) ((m).entries.len) ((m).entries.cap), .slice ((m).marks.a) ((m).marks.len) ((m).marks.cap), .slice ((m).cloud.a) ((m).cloud.len) ((m).cloud.cap), .int .i64 ((m).owner), .int .i64 ((m).part), .int .i64 ((m).n), .int .i64 ((m).rparts), .int .i64 ((m).rcopies), .int .i64 ((m).rspots), .slice ((m).members.a) ((m).members.len) ((m).members.cap), .slice ((m).peers.a) ((m).peers.len) ((m).peers.cap), .slice ((m).sums.a) ((m).sums.len) ((m).sums.cap)]) rfl ?_
  intro b_1 w_2 hl_5 hb_4 K_3
  replace hb_4 : Blk w_2 b_1 [.int .i64 ((m).kind), .int .i64 ((m).frm), .int .i64 ((m).to), .int .i64 ((m).req), .string ((m).key), .slice ((m).entries.a) ((m).entries.len) ((m).entries.cap), .slice ((m).marks.a) ((m).marks.len) ((m).marks.cap), .slice ((m).cloud.a) ((m).cloud.len) ((m).cloud.cap), .int .i64 ((m).owner), .int .i64 ((m).part), .int .i64 ((m).n), .int .i64 ((m).rparts), .int .i64 ((m).rcopies), .int .i64 ((m).rspots), .slice ((m).members.a) ((m).members.len) ((m).members.cap), .slice ((m).peers.a) ((m).peers.len) ((m).peers.cap), .slice ((m).sums.a) ((m).sums.len) ((m).sums.cap)] 61 := hb_4
  have : w.heap.size ≤ b_1 := hl_5
  clear hl_5
  have K0 := (K_3 : Ext w _)
  refine RL.val (x_assignSl rfl) ?_
  refine RL.val (x_assignSl rfl) ?_
  refine RL.nil ?_
  refine Run.seq ?_
  refine Run.seq ?_
  refine Run.region ?_
  refine RL.val (x_moveP rfl) ?_
  refine RL.st rfl <| St1.call (vals := [.pointer none]) en38 rfl (there_nil  _) ?_
  rintro _ w_6 ⟨rfl, K_7⟩
  replace hb_4 := hb_4.ext K_7
  replace K0 := K0.ext K_7
  refine RL.val (x_not rfl) ?_
  refine RL.nil ?_
  refine Run.condT rfl ?_
  refine Run.seq ?_
  refine Run.region ?_
  refine RL.val (x_assignSl rfl) ?_
  refine RL.val (x_assignSl rfl) ?_
  refine RL.nil ?_
  refine Run.ret2 (v := .slice (none) (0) (0)) (x := .slice (none) (0) (0)) Try.func26 rfl rfl rfl ?_
  exact ⟨_, rfl, rfl, K0⟩

set_option maxRecDepth 100000 in
set_option maxHeartbeats 4000000 in
theorem On_zero (b : Nat) (m : MsgC) (t : Int) (w : World) (hb : Blk w b [.bool (false), .int .i64 (0), .int .i64 (0), .int .i64 (0), .int .i64 (0), .int .i64 (0), .int .i64 (0), .int .i64 (0), .int .i64 (0), .int .i64 (0), .int .i64 (0), .int .i64 (0), .int .i64 (0), .int .i64 (0), .int .i64 (0), .int .i64 (0), .int .i64 (0), .int .i64 (0), .int .i64 (0), .int .i64 (0), .int .i64 (0), .int .i64 (0), .int .i64 (0), .int .i64 (0), .int .i64 (0), .int .i64 (0), .int .i64 (0), .int .i64 (0), .int .i64 (0), .int .i64 (0), .int .i64 (0), .int .i64 (0), .int .i64 (0), .int .i64 (0), .int .i64 (0), .slice (none) (0) (0), .int .i64 (0), .bool (false), .int .i64 (0), .int .i64 (0)] 71) :
    Calls Try.prog 26 #[.pointer (some ⟨b, 0, none⟩), .agg #[.int .i64 ((m).kind), .int .i64 ((m).frm), .int .i64 ((m).to), .int .i64 ((m).req), .string ((m).key), .slice ((m).entries.a) ((m).entries.len) ((m).entries.cap), .slice ((m).marks.a) ((m).marks.len) ((m).marks.cap), .slice ((m).cloud.a) ((m).cloud.len) ((m).cloud.cap), .int .i64 ((m).owner), .int .i64 ((m).part), .int .i64 ((m).n), .int .i64 ((m).rparts), .int .i64 ((m).rcopies), .int .i64 ((m).rspots), .slice ((m).members.a) ((m).members.len) ((m).members.cap), .slice ((m).peers.a) ((m).peers.len) ((m).peers.cap), .slice ((m).sums.a) ((m).sums.len) ((m).sums.cap)], .int .i64 (t)] w (Ret (fun v w' => v = .tuple #[.slice (none) (0) (0), .slice (none) (0) (0)] ∧ Ext w w')) := by
  refine calls_run (n := 71) Try.func26 rfl rfl rfl ?_
  refine Run.seq ?_
  refine Run.region ?_
  refine RL.st rfl <| St1.box (v := .agg #[.int .i64 ((m).kind), .int .i64 ((m).frm), .int .i64 ((m).to), .int .i64 ((m).req), .string ((m).key), .slice ((m).entries.a) ((m).entries.len) ((m).entries.cap), .slice ((m).marks.a) ((m).marks.len) ((m).marks.cap), .slice ((m).cloud.a) ((m).cloud.len) ((m).cloud.cap), .int .i64 ((m).owner), .int .i64 ((m).part), .int .i64 ((m).n), .int .i64 ((m).rparts), .int .i64 ((m).rcopies), .int .i64 ((m).rspots), .slice ((m).members.a) ((m).members.len) ((m).members.cap), .slice ((m).peers.a) ((m).peers.len) ((m).peers.cap), .slice ((m).sums.a) ((m).sums.len) ((m).sums.cap)]) rfl ?_
  intro b_1 w_2 hl_5 hb_4 K_3
  replace hb_4 : Blk w_2 b_1 [.int .i64 ((m).kind), .int .i64 ((m).frm), .int .i64 ((m).to), .int .i64 ((m).req), .string ((m).key), .slice ((m).entries.a) ((m).entries.len) ((m).entries.cap), .slice ((m).marks.a) ((m).marks.len) ((m).marks.cap), .slice ((m).cloud.a) ((m).cloud.len) ((m).cloud.cap), .int .i64 ((m).owner), .int .i64 ((m).part), .int .i64 ((m).n), .int .i64 ((m).rparts), .int .i64 ((m).rcopies), .int .i64 ((m).rspots), .slice ((m).members.a) ((m).members.len) ((m).members.cap), .slice ((m).peers.a) ((m).peers.len) ((m).peers.cap), .slice ((m).sums.a) ((m).sums.len) ((m).sums.cap)] 61 := hb_4
  have ne_6 : b < b_1 := Nat.lt_of_lt_of_le hb.lt hl_5
  have : w.heap.size ≤ b_1 := hl_5
  clear hl_5
  replace hb := hb.ext K_3
  have K0 := (K_3 : Ext w _)
  refine RL.val (x_assignSl rfl) ?_
  refine RL.val (x_assignSl rfl) ?_
  refine RL.nil ?_
  refine Run.seq ?_
  refine Run.seq ?_
  refine Run.region ?_
  refine RL.val (x_moveP rfl) ?_
  refine RL.st rfl <| St1.call (vals := [.pointer (some ⟨b, 0, none⟩)]) en38 rfl (there_zero _  _ hb) ?_
  rintro _ w_7 ⟨rfl, K_8⟩
  replace hb := hb.ext K_8
  replace hb_4 := hb_4.ext K_8
  replace K0 := K0.ext K_8
  refine RL.val (x_not rfl) ?_
  refine RL.nil ?_
  refine Run.condT rfl ?_
  refine Run.seq ?_
  refine Run.region ?_
  refine RL.val (x_assignSl rfl) ?_
  refine RL.val (x_assignSl rfl) ?_
  refine RL.nil ?_
  refine Run.ret2 (v := .slice (none) (0) (0)) (x := .slice (none) (0) (0)) Try.func26 rfl rfl rfl ?_
  exact ⟨_, rfl, rfl, K0⟩

set_option maxRecDepth 100000 in
set_option maxHeartbeats 4000000 in
theorem Hear_nil (a0 : Option Addr) (n0 c0 : Nat) (t : Int) (w : World) :
    Calls Try.prog 15 #[.pointer none, .slice (a0) (n0) (c0), .int .i64 (t)] w (Ret (fun v w' => v = .slice (none) (0) (0) ∧ Ext w w')) := by
  refine calls_run (n := 70) Try.func15 rfl rfl rfl ?_
  refine Run.seq ?_
  refine Run.region ?_
  refine RL.val (x_assignSl rfl) ?_
  refine RL.nil ?_
  refine Run.seq ?_
  refine Run.seq ?_
  refine Run.region ?_
  refine RL.val (x_moveP rfl) ?_
  refine RL.st rfl <| St1.call (vals := [.pointer none]) en38 rfl (there_nil  _) ?_
  rintro _ w_1 ⟨rfl, K_2⟩
  have K0 := (K_2 : Ext w _)
  refine RL.val (x_not rfl) ?_
  refine RL.nil ?_
  refine Run.condT rfl ?_
  refine Run.seq ?_
  refine Run.region ?_
  refine RL.val (x_assignSl rfl) ?_
  refine RL.nil ?_
  refine Run.ret1 (v := .slice (none) (0) (0)) Try.func15 rfl rfl ?_
  exact ⟨_, rfl, rfl, K0⟩

set_option maxRecDepth 100000 in
set_option maxHeartbeats 4000000 in
theorem Hear_zero (b : Nat) (a0 : Option Addr) (n0 c0 : Nat) (t : Int) (w : World) (hb : Blk w b [.bool (false), .int .i64 (0), .int .i64 (0), .int .i64 (0), .int .i64 (0), .int .i64 (0), .int .i64 (0), .int .i64 (0), .int .i64 (0), .int .i64 (0), .int .i64 (0), .int .i64 (0), .int .i64 (0), .int .i64 (0), .int .i64 (0), .int .i64 (0), .int .i64 (0), .int .i64 (0), .int .i64 (0), .int .i64 (0), .int .i64 (0), .int .i64 (0), .int .i64 (0), .int .i64 (0), .int .i64 (0), .int .i64 (0), .int .i64 (0), .int .i64 (0), .int .i64 (0), .int .i64 (0), .int .i64 (0), .int .i64 (0), .int .i64 (0), .int .i64 (0), .int .i64 (0), .slice (none) (0) (0), .int .i64 (0), .bool (false), .int .i64 (0), .int .i64 (0)] 71) :
    Calls Try.prog 15 #[.pointer (some ⟨b, 0, none⟩), .slice (a0) (n0) (c0), .int .i64 (t)] w (Ret (fun v w' => v = .slice (none) (0) (0) ∧ Ext w w')) := by
  refine calls_run (n := 70) Try.func15 rfl rfl rfl ?_
  refine Run.seq ?_
  refine Run.region ?_
  refine RL.val (x_assignSl rfl) ?_
  refine RL.nil ?_
  refine Run.seq ?_
  refine Run.seq ?_
  refine Run.region ?_
  refine RL.val (x_moveP rfl) ?_
  refine RL.st rfl <| St1.call (vals := [.pointer (some ⟨b, 0, none⟩)]) en38 rfl (there_zero _  _ hb) ?_
  rintro _ w_1 ⟨rfl, K_2⟩
  replace hb := hb.ext K_2
  have K0 := (K_2 : Ext w _)
  refine RL.val (x_not rfl) ?_
  refine RL.nil ?_
  refine Run.condT rfl ?_
  refine Run.seq ?_
  refine Run.region ?_
  refine RL.val (x_assignSl rfl) ?_
  refine RL.nil ?_
  refine Run.ret1 (v := .slice (none) (0) (0)) Try.func15 rfl rfl ?_
  exact ⟨_, rfl, rfl, K0⟩

set_option maxRecDepth 100000 in
set_option maxHeartbeats 4000000 in
theorem Peers_nil  (w : World) :
    Calls Try.prog 23 #[.pointer none] w (Ret (fun v w' => v = .slice (none) (0) (0) ∧ Ext w w')) := by
  refine calls_run (n := 33) Try.func23 rfl rfl rfl ?_
  refine Run.seq ?_
  refine Run.region ?_
  refine RL.val (x_assignSl rfl) ?_
  refine RL.nil ?_
  refine Run.seq ?_
  refine Run.seq ?_
  refine Run.region ?_
  refine RL.val (x_moveP rfl) ?_
  refine RL.st rfl <| St1.call (vals := [.pointer none]) en38 rfl (there_nil  _) ?_
  rintro _ w_1 ⟨rfl, K_2⟩
  have K0 := (K_2 : Ext w _)
  refine RL.val (x_not rfl) ?_
  refine RL.nil ?_
  refine Run.condT rfl ?_
  refine Run.seq ?_
  refine Run.region ?_
  refine RL.val (x_assignSl rfl) ?_
  refine RL.nil ?_
  refine Run.ret1 (v := .slice (none) (0) (0)) Try.func23 rfl rfl ?_
  exact ⟨_, rfl, rfl, K0⟩

set_option maxRecDepth 100000 in
set_option maxHeartbeats 4000000 in
theorem Peers_zero (b : Nat)  (w : World) (hb : Blk w b [.bool (false), .int .i64 (0), .int .i64 (0), .int .i64 (0), .int .i64 (0), .int .i64 (0), .int .i64 (0), .int .i64 (0), .int .i64 (0), .int .i64 (0), .int .i64 (0), .int .i64 (0), .int .i64 (0), .int .i64 (0), .int .i64 (0), .int .i64 (0), .int .i64 (0), .int .i64 (0), .int .i64 (0), .int .i64 (0), .int .i64 (0), .int .i64 (0), .int .i64 (0), .int .i64 (0), .int .i64 (0), .int .i64 (0), .int .i64 (0), .int .i64 (0), .int .i64 (0), .int .i64 (0), .int .i64 (0), .int .i64 (0), .int .i64 (0), .int .i64 (0), .int .i64 (0), .slice (none) (0) (0), .int .i64 (0), .bool (false), .int .i64 (0), .int .i64 (0)] 71) :
    Calls Try.prog 23 #[.pointer (some ⟨b, 0, none⟩)] w (Ret (fun v w' => v = .slice (none) (0) (0) ∧ Ext w w')) := by
  refine calls_run (n := 33) Try.func23 rfl rfl rfl ?_
  refine Run.seq ?_
  refine Run.region ?_
  refine RL.val (x_assignSl rfl) ?_
  refine RL.nil ?_
  refine Run.seq ?_
  refine Run.seq ?_
  refine Run.region ?_
  refine RL.val (x_moveP rfl) ?_
  refine RL.st rfl <| St1.call (vals := [.pointer (some ⟨b, 0, none⟩)]) en38 rfl (there_zero _  _ hb) ?_
  rintro _ w_1 ⟨rfl, K_2⟩
  replace hb := hb.ext K_2
  have K0 := (K_2 : Ext w _)
  refine RL.val (x_not rfl) ?_
  refine RL.nil ?_
  refine Run.condT rfl ?_
  refine Run.seq ?_
  refine Run.region ?_
  refine RL.val (x_assignSl rfl) ?_
  refine RL.nil ?_
  refine Run.ret1 (v := .slice (none) (0) (0)) Try.func23 rfl rfl ?_
  exact ⟨_, rfl, rfl, K0⟩

set_option maxRecDepth 100000 in
set_option maxHeartbeats 4000000 in
theorem Status_nil (t : Int) (w : World) :
    Calls Try.prog 17 #[.pointer none, .int .i64 (t)] w (Ret (fun v w' => v = .int .i64 (0) ∧ Ext w w')) := by
  refine calls_run (n := 24) Try.func17 rfl rfl rfl ?_
  refine Run.seq ?_
  refine Run.region ?_
  refine RL.val (x_assignI rfl) ?_
  refine RL.nil ?_
  refine Run.seq ?_
  refine Run.seq ?_
  refine Run.region ?_
  refine RL.val (x_moveP rfl) ?_
  refine RL.st rfl <| St1.call (vals := [.pointer none]) en38 rfl (there_nil  _) ?_
  rintro _ w_1 ⟨rfl, K_2⟩
  have K0 := (K_2 : Ext w _)
  refine RL.val (x_not rfl) ?_
  refine RL.val (x_moveB rfl) ?_
  refine RL.guardF (wantedF0 rfl rfl rfl rfl) ?_
  refine RL.guardF (wantedF0 rfl rfl rfl rfl) ?_
  refine RL.val (x_or (b := true) (e := false) rfl rfl rfl) ?_
  refine RL.val (x_moveB rfl) ?_
  refine RL.guardF (wantedF0 rfl rfl rfl rfl) ?_
  refine RL.guardF (wantedF0 rfl rfl rfl rfl) ?_
  refine RL.val (x_or (b := true) (e := false) rfl rfl rfl) ?_
  refine RL.nil ?_
  refine Run.condT rfl ?_
  refine Run.seq ?_
  refine Run.region ?_
  refine RL.val (x_assignI rfl) ?_
  refine RL.nil ?_
  refine Run.ret1 (v := .int .i64 (0)) Try.func17 rfl rfl ?_
  exact ⟨_, rfl, rfl, K0⟩

set_option maxRecDepth 100000 in
set_option maxHeartbeats 4000000 in
theorem Status_zero (b : Nat) (t : Int) (w : World) (hb : Blk w b [.bool (false), .int .i64 (0), .int .i64 (0), .int .i64 (0), .int .i64 (0), .int .i64 (0), .int .i64 (0), .int .i64 (0), .int .i64 (0), .int .i64 (0), .int .i64 (0), .int .i64 (0), .int .i64 (0), .int .i64 (0), .int .i64 (0), .int .i64 (0), .int .i64 (0), .int .i64 (0), .int .i64 (0), .int .i64 (0), .int .i64 (0), .int .i64 (0), .int .i64 (0), .int .i64 (0), .int .i64 (0), .int .i64 (0), .int .i64 (0), .int .i64 (0), .int .i64 (0), .int .i64 (0), .int .i64 (0), .int .i64 (0), .int .i64 (0), .int .i64 (0), .int .i64 (0), .slice (none) (0) (0), .int .i64 (0), .bool (false), .int .i64 (0), .int .i64 (0)] 71) :
    Calls Try.prog 17 #[.pointer (some ⟨b, 0, none⟩), .int .i64 (t)] w (Ret (fun v w' => v = .int .i64 (0) ∧ Ext w w')) := by
  refine calls_run (n := 24) Try.func17 rfl rfl rfl ?_
  refine Run.seq ?_
  refine Run.region ?_
  refine RL.val (x_assignI rfl) ?_
  refine RL.nil ?_
  refine Run.seq ?_
  refine Run.seq ?_
  refine Run.region ?_
  refine RL.val (x_moveP rfl) ?_
  refine RL.st rfl <| St1.call (vals := [.pointer (some ⟨b, 0, none⟩)]) en38 rfl (there_zero _  _ hb) ?_
  rintro _ w_1 ⟨rfl, K_2⟩
  replace hb := hb.ext K_2
  have K0 := (K_2 : Ext w _)
  refine RL.val (x_not rfl) ?_
  refine RL.val (x_moveB rfl) ?_
  refine RL.guardF (wantedF0 rfl rfl rfl rfl) ?_
  refine RL.guardF (wantedF0 rfl rfl rfl rfl) ?_
  refine RL.val (x_or (b := true) (e := false) rfl rfl rfl) ?_
  refine RL.val (x_moveB rfl) ?_
  refine RL.guardF (wantedF0 rfl rfl rfl rfl) ?_
  refine RL.guardF (wantedF0 rfl rfl rfl rfl) ?_
  refine RL.val (x_or (b := true) (e := false) rfl rfl rfl) ?_
  refine RL.nil ?_
  refine Run.condT rfl ?_
  refine Run.seq ?_
  refine Run.region ?_
  refine RL.val (x_assignI rfl) ?_
  refine RL.nil ?_
  refine Run.ret1 (v := .int .i64 (0)) Try.func17 rfl rfl ?_
  exact ⟨_, rfl, rfl, K0⟩

set_option maxRecDepth 100000 in
set_option maxHeartbeats 4000000 in
theorem Up_nil (t : Int) (w : World) :
    Calls Try.prog 18 #[.pointer none, .int .i64 (t)] w (Ret (fun v w' => v = .bool (false) ∧ Ext w w')) := by
  refine calls_run (n := 15) Try.func18 rfl rfl rfl ?_
  refine Run.seq ?_
  refine Run.region ?_
  refine RL.val (x_assignB rfl) ?_
  refine RL.nil ?_
  refine Run.seq ?_
  refine Run.region ?_
  refine RL.val (x_moveP rfl) ?_
  refine RL.val (x_moveI rfl) ?_
  refine RL.st rfl <| St1.call (vals := [.pointer none, .int .i64 (t)]) en17 rfl (Status_nil t _) ?_
  rintro _ w_1 ⟨rfl, K_2⟩
  have K0 := (K_2 : Ext w _)
  refine RL.val (x_assignI rfl) ?_
  refine RL.nil ?_
  refine Run.seq ?_
  refine Run.region ?_
  refine RL.val (x_moveI rfl) ?_
  refine RL.val (litF (x_eqI rfl rfl) (by decide)) ?_
  refine RL.val (x_moveB rfl) ?_
  refine RL.gst (wantedF1 rfl rfl rfl rfl) <| St1.val (x_moveI rfl) ?_
  refine RL.gst (wantedF1 rfl rfl rfl rfl) <| St1.val (litF (x_eqI rfl rfl) (by decide)) ?_
  refine RL.val (x_orF rfl rfl rfl) ?_
  refine RL.val (x_assignB rfl) ?_
  refine RL.nil ?_
  refine Run.ret1 (v := .bool (false)) Try.func18 rfl rfl ?_
  exact ⟨_, rfl, rfl, K0⟩

set_option maxRecDepth 100000 in
set_option maxHeartbeats 4000000 in
theorem Up_zero (b : Nat) (t : Int) (w : World) (hb : Blk w b [.bool (false), .int .i64 (0), .int .i64 (0), .int .i64 (0), .int .i64 (0), .int .i64 (0), .int .i64 (0), .int .i64 (0), .int .i64 (0), .int .i64 (0), .int .i64 (0), .int .i64 (0), .int .i64 (0), .int .i64 (0), .int .i64 (0), .int .i64 (0), .int .i64 (0), .int .i64 (0), .int .i64 (0), .int .i64 (0), .int .i64 (0), .int .i64 (0), .int .i64 (0), .int .i64 (0), .int .i64 (0), .int .i64 (0), .int .i64 (0), .int .i64 (0), .int .i64 (0), .int .i64 (0), .int .i64 (0), .int .i64 (0), .int .i64 (0), .int .i64 (0), .int .i64 (0), .slice (none) (0) (0), .int .i64 (0), .bool (false), .int .i64 (0), .int .i64 (0)] 71) :
    Calls Try.prog 18 #[.pointer (some ⟨b, 0, none⟩), .int .i64 (t)] w (Ret (fun v w' => v = .bool (false) ∧ Ext w w')) := by
  refine calls_run (n := 15) Try.func18 rfl rfl rfl ?_
  refine Run.seq ?_
  refine Run.region ?_
  refine RL.val (x_assignB rfl) ?_
  refine RL.nil ?_
  refine Run.seq ?_
  refine Run.region ?_
  refine RL.val (x_moveP rfl) ?_
  refine RL.val (x_moveI rfl) ?_
  refine RL.st rfl <| St1.call (vals := [.pointer (some ⟨b, 0, none⟩), .int .i64 (t)]) en17 rfl (Status_zero _ t _ hb) ?_
  rintro _ w_1 ⟨rfl, K_2⟩
  replace hb := hb.ext K_2
  have K0 := (K_2 : Ext w _)
  refine RL.val (x_assignI rfl) ?_
  refine RL.nil ?_
  refine Run.seq ?_
  refine Run.region ?_
  refine RL.val (x_moveI rfl) ?_
  refine RL.val (litF (x_eqI rfl rfl) (by decide)) ?_
  refine RL.val (x_moveB rfl) ?_
  refine RL.gst (wantedF1 rfl rfl rfl rfl) <| St1.val (x_moveI rfl) ?_
  refine RL.gst (wantedF1 rfl rfl rfl rfl) <| St1.val (litF (x_eqI rfl rfl) (by decide)) ?_
  refine RL.val (x_orF rfl rfl rfl) ?_
  refine RL.val (x_assignB rfl) ?_
  refine RL.nil ?_
  refine Run.ret1 (v := .bool (false)) Try.func18 rfl rfl ?_
  exact ⟨_, rfl, rfl, K0⟩

set_option maxRecDepth 100000 in
set_option maxHeartbeats 4000000 in
theorem law_none (a0 : Option Addr) (n0 c0 : Nat) (o : DoC) (n : Int) (w : World) :
    Calls Try.prog 8 #[.slice (a0) (n0) (c0), .agg #[.int .i64 ((o).op), .int .i64 ((o).now), .slice ((o).peers.a) ((o).peers.len) ((o).peers.cap), .int .i64 ((o).kind), .int .i64 ((o).frm), .int .i64 ((o).req), .int .i64 ((o).owner), .int .i64 ((o).n)], .int .i64 (n)] w (Ret (fun v w' => v = .bool true ∧ Ext w w')) := by
  refine calls_run (n := 72) Try.func8 rfl rfl rfl ?_
  refine Run.seq ?_
  refine Run.region ?_
  refine RL.st rfl <| St1.box (v := .agg #[.int .i64 ((o).op), .int .i64 ((o).now), .slice ((o).peers.a) ((o).peers.len) ((o).peers.cap), .int .i64 ((o).kind), .int .i64 ((o).frm), .int .i64 ((o).req), .int .i64 ((o).owner), .int .i64 ((o).n)]) rfl ?_
  intro b_1 w_2 hl_5 hb_4 K_3
  replace hb_4 : Blk w_2 b_1 [.int .i64 ((o).op), .int .i64 ((o).now), .slice ((o).peers.a) ((o).peers.len) ((o).peers.cap), .int .i64 ((o).kind), .int .i64 ((o).frm), .int .i64 ((o).req), .int .i64 ((o).owner), .int .i64 ((o).n)] 65 := hb_4
  have : w.heap.size ≤ b_1 := hl_5
  clear hl_5
  have K0 := (K_3 : Ext w _)
  refine RL.val (x_assignB rfl) ?_
  refine RL.nil ?_
  refine Run.seq ?_
  refine Run.seq ?_
  refine Run.region ?_
  refine RL.val (x_build (cells := #[.bool (false), .int .i64 (0), .int .i64 (0), .int .i64 (0), .int .i64 (0), .int .i64 (0), .int .i64 (0), .int .i64 (0), .int .i64 (0), .int .i64 (0), .int .i64 (0), .int .i64 (0), .int .i64 (0), .int .i64 (0), .int .i64 (0), .int .i64 (0), .int .i64 (0), .int .i64 (0), .int .i64 (0), .int .i64 (0), .int .i64 (0), .int .i64 (0), .int .i64 (0), .int .i64 (0), .int .i64 (0), .int .i64 (0), .int .i64 (0), .int .i64 (0), .int .i64 (0), .int .i64 (0), .int .i64 (0), .int .i64 (0), .int .i64 (0), .int .i64 (0), .int .i64 (0), .slice (none) (0) (0), .int .i64 (0), .bool (false), .int .i64 (0), .int .i64 (0)]) (by kernel_rfl)) ?_
  refine RL.st rfl <| St1.box (v := .agg #[.bool (false), .int .i64 (0), .int .i64 (0), .int .i64 (0), .int .i64 (0), .int .i64 (0), .int .i64 (0), .int .i64 (0), .int .i64 (0), .int .i64 (0), .int .i64 (0), .int .i64 (0), .int .i64 (0), .int .i64 (0), .int .i64 (0), .int .i64 (0), .int .i64 (0), .int .i64 (0), .int .i64 (0), .int .i64 (0), .int .i64 (0), .int .i64 (0), .int .i64 (0), .int .i64 (0), .int .i64 (0), .int .i64 (0), .int .i64 (0), .int .i64 (0), .int .i64 (0), .int .i64 (0), .int .i64 (0), .int .i64 (0), .int .i64 (0), .int .i64 (0), .int .i64 (0), .slice (none) (0) (0), .int .i64 (0), .bool (false), .int .i64 (0), .int .i64 (0)]) rfl ?_
  intro b_6 w_7 hl_10 hb_9 K_8
  replace hb_9 : Blk w_7 b_6 [.bool (false), .int .i64 (0), .int .i64 (0), .int .i64 (0), .int .i64 (0), .int .i64 (0), .int .i64 (0), .int .i64 (0), .int .i64 (0), .int .i64 (0), .int .i64 (0), .int .i64 (0), .int .i64 (0), .int .i64 (0), .int .i64 (0), .int .i64 (0), .int .i64 (0), .int .i64 (0), .int .i64 (0), .int .i64 (0), .int .i64 (0), .int .i64 (0), .int .i64 (0), .int .i64 (0), .int .i64 (0), .int .i64 (0), .int .i64 (0), .int .i64 (0), .int .i64 (0), .int .i64 (0), .int .i64 (0), .int .i64 (0), .int .i64 (0), .int .i64 (0), .int .i64 (0), .slice (none) (0) (0), .int .i64 (0), .bool (false), .int .i64 (0), .int .i64 (0)] 71 := hb_9
  have ne_11 : b_1 < b_6 := Nat.lt_of_lt_of_le hb_4.lt hl_10
  have : w.heap.size ≤ b_6 := Nat.le_trans K0.size hl_10
  clear hl_10
  replace hb_4 := hb_4.ext K_8
  replace K0 := K0.ext K_8
  refine RL.st rfl <| St1.buildSlice ([(none : Option Addr), some (⟨b_6, 0, none⟩ : Addr)] : List (Option Addr)) Try.underlying72 ty28 rfl rfl (by first | decide | (simp [Enc.size])) ?_
  intro b_12 w_13 hl_16 ho_15 K_14
  have pr_17 : ¬ own (some ⟨b_12, 0, none⟩) b_1 := notNew (ge_new hl_16) hb_4.lt
  have pr_18 : ¬ own (some ⟨b_12, 0, none⟩) b_6 := notNew (ge_new hl_16) hb_9.lt
  have pg_19 : ∀ q_, own (some ⟨b_12, 0, none⟩) q_ → w.heap.size ≤ q_ := fun q_ h => Nat.le_trans K0.size ((ge_new hl_16) q_ h)
  clear hl_16
  replace hb_4 := hb_4.ext K_14
  replace hb_9 := hb_9.ext K_14
  replace K0 := K0.ext K_14
  refine RL.val (litI (c := 2) (x_lenSl Try.underlying72 rfl) rfl) ?_
  refine RL.val (x_moveI rfl) ?_
  refine RL.nil ?_
  refine Run.block ?_
  refine Run.unloop ?_
  refine Run.seq ?_
  refine Run.region ?_
  refine RL.val (litT (x_ltI rfl rfl) (by decide)) ?_
  refine RL.nil ?_
  refine Run.seq ?_
  refine Run.condT rfl ?_
  refine Run.skip ?_
  refine Run.seq ?_
  refine Run.block ?_
  refine Run.seq ?_
  refine Run.region ?_
  obtain ⟨b_20, o_21, x_24, hx_25, ha_22, hc_23⟩ := ho_15.sl.el (i := 0) (by simp)
  obtain rfl : (none : Option Addr) = x_24 := Option.some.inj hx_25
  refine RL.val (x_idxN Try.underlying72 ty28 rfl rfl ha_22 (by simp)) ?_
  refine RL.val (x_ldV (v := .pointer none) (y := (none : Option Addr)) ty28 rfl hc_23 rfl) ?_
  refine RL.val (x_assignP rfl) ?_
  refine RL.nil ?_
  refine Run.seq ?_
  refine Run.region ?_
  refine RL.val (x_moveP rfl) ?_
  refine RL.val (x_fld (o' := 1) Try.underlying65 rfl ty3 rfl rfl rfl) ?_
  refine RL.val (x_ld (v := .int .i64 ((o).now)) ty3 rfl rfl (hb_4.cl.field (i := 1) rfl)) ?_
  refine RL.st rfl <| St1.call (vals := [.pointer none, .int .i64 ((o).now)]) en16 rfl (Tick_nil ((o).now) _) ?_
  rintro _ w_26 ⟨rfl, K_27⟩
  replace hb_4 := hb_4.ext K_27
  replace hb_9 := hb_9.ext K_27
  replace ho_15 := ho_15.ext K_27
  replace K0 := K0.ext K_27
  refine RL.val (x_moveT rfl) ?_
  refine RL.val (x_extract rfl rfl) ?_
  refine RL.val (x_extract rfl rfl) ?_
  refine RL.val (x_assignSl rfl) ?_
  refine RL.val (x_assignSl rfl) ?_
  refine RL.nil ?_
  refine Run.seq ?_
  refine Run.drawT [] (m := 12) (by kernel_rfl) rfl ?_
  intro w_28 K_29
  replace hb_4 := hb_4.ext K_29
  replace hb_9 := hb_9.ext K_29
  replace ho_15 := ho_15.ext K_29
  replace K0 := K0.ext K_29
  refine ⟨fun w' => Blk w' b_1 [.int .i64 ((o).op), .int .i64 ((o).now), .slice ((o).peers.a) ((o).peers.len) ((o).peers.cap), .int .i64 ((o).kind), .int .i64 ((o).frm), .int .i64 ((o).req), .int .i64 ((o).owner), .int .i64 ((o).n)] 65 ∧ True, ?_⟩
  refine RT.takeP (v := .pointer none) 0 rfl (by kernel_rfl) (.inr ⟨hb_4, trivial⟩) (fun _ => (x_moveP rfl)) ?_
  refine RT.take (v := .agg #[.int .i64 ((o).op), .int .i64 ((o).now), .slice ((o).peers.a) ((o).peers.len) ((o).peers.cap), .int .i64 ((o).kind), .int .i64 ((o).frm), .int .i64 ((o).req), .int .i64 ((o).owner), .int .i64 ((o).n)]) 1 rfl (by kernel_rfl) ⟨hb_4, trivial⟩ (by rintro _ ⟨hb_4, -⟩; exact (x_lds (cs := #[.int .i64 ((o).op), .int .i64 ((o).now), .slice ((o).peers.a) ((o).peers.len) ((o).peers.cap), .int .i64 ((o).kind), .int .i64 ((o).frm), .int .i64 ((o).req), .int .i64 ((o).owner), .int .i64 ((o).n)]) ty65 rfl rfl (hb_4.cl.drop 0 8))) ?_
  refine RT.takeP (v := .int .i64 (n)) 2 rfl (by kernel_rfl) (.inr ⟨hb_4, trivial⟩) (fun _ => (x_moveI rfl)) ?_
  refine RT.takeP (v := .pointer (some ⟨b_1, 1, none⟩)) 4 rfl (by kernel_rfl) (.inr ⟨hb_4, trivial⟩) (fun _ => (x_fld (o' := 1) Try.underlying65 rfl ty3 rfl rfl rfl)) ?_
  refine RT.take (v := .int .i64 ((o).now)) 5 rfl (by kernel_rfl) ⟨hb_4, trivial⟩ (by rintro _ ⟨hb_4, -⟩; exact (x_ld (v := .int .i64 ((o).now)) ty3 rfl rfl (hb_4.cl.field (i := 1) rfl))) ?_
  refine RT.st 3 rfl (by kernel_rfl) rfl <| St1.call (vals := [.agg #[.int .i64 ((o).op), .int .i64 ((o).now), .slice ((o).peers.a) ((o).peers.len) ((o).peers.cap), .int .i64 ((o).kind), .int .i64 ((o).frm), .int .i64 ((o).req), .int .i64 ((o).owner), .int .i64 ((o).n)], .int .i64 (n)]) en27 rfl (msg_ (⟨(o).op, (o).now, ⟨(o).peers.a, (o).peers.len, (o).peers.cap⟩, (o).kind, (o).frm, (o).req, (o).owner, (o).n⟩ : DoC) n _) ?_
  rintro _ w_30 ⟨rfl, K_31⟩
  replace hb_4 := hb_4.ext K_31
  replace hb_9 := hb_9.ext K_31
  replace ho_15 := ho_15.ext K_31
  replace K0 := K0.ext K_31
  refine ⟨.inr ⟨hb_4, trivial⟩, ?_⟩
  refine RT.st 6 rfl (by kernel_rfl) rfl <| St1.call (vals := [.pointer none, .agg #[.int .i64 ((msgOf (⟨(o).op, (o).now, ⟨(o).peers.a, (o).peers.len, (o).peers.cap⟩, (o).kind, (o).frm, (o).req, (o).owner, (o).n⟩ : DoC) n).kind), .int .i64 ((msgOf (⟨(o).op, (o).now, ⟨(o).peers.a, (o).peers.len, (o).peers.cap⟩, (o).kind, (o).frm, (o).req, (o).owner, (o).n⟩ : DoC) n).frm), .int .i64 ((msgOf (⟨(o).op, (o).now, ⟨(o).peers.a, (o).peers.len, (o).peers.cap⟩, (o).kind, (o).frm, (o).req, (o).owner, (o).n⟩ : DoC) n).to), .int .i64 ((msgOf (⟨(o).op, (o).now, ⟨(o).peers.a, (o).peers.len, (o).peers.cap⟩, (o).kind, (o).frm, (o).req, (o).owner, (o).n⟩ : DoC) n).req), .string ((msgOf (⟨(o).op, (o).now, ⟨(o).peers.a, (o).peers.len, (o).peers.cap⟩, (o).kind, (o).frm, (o).req, (o).owner, (o).n⟩ : DoC) n).key), .slice ((msgOf (⟨(o).op, (o).now, ⟨(o).peers.a, (o).peers.len, (o).peers.cap⟩, (o).kind, (o).frm, (o).req, (o).owner, (o).n⟩ : DoC) n).entries.a) ((msgOf (⟨(o).op, (o).now, ⟨(o).peers.a, (o).peers.len, (o).peers.cap⟩, (o).kind, (o).frm, (o).req, (o).owner, (o).n⟩ : DoC) n).entries.len) ((msgOf (⟨(o).op, (o).now, ⟨(o).peers.a, (o).peers.len, (o).peers.cap⟩, (o).kind, (o).frm, (o).req, (o).owner, (o).n⟩ : DoC) n).entries.cap), .slice ((msgOf (⟨(o).op, (o).now, ⟨(o).peers.a, (o).peers.len, (o).peers.cap⟩, (o).kind, (o).frm, (o).req, (o).owner, (o).n⟩ : DoC) n).marks.a) ((msgOf (⟨(o).op, (o).now, ⟨(o).peers.a, (o).peers.len, (o).peers.cap⟩, (o).kind, (o).frm, (o).req, (o).owner, (o).n⟩ : DoC) n).marks.len) ((msgOf (⟨(o).op, (o).now, ⟨(o).peers.a, (o).peers.len, (o).peers.cap⟩, (o).kind, (o).frm, (o).req, (o).owner, (o).n⟩ : DoC) n).marks.cap), .slice ((msgOf (⟨(o).op, (o).now, ⟨(o).peers.a, (o).peers.len, (o).peers.cap⟩, (o).kind, (o).frm, (o).req, (o).owner, (o).n⟩ : DoC) n).cloud.a) ((msgOf (⟨(o).op, (o).now, ⟨(o).peers.a, (o).peers.len, (o).peers.cap⟩, (o).kind, (o).frm, (o).req, (o).owner, (o).n⟩ : DoC) n).cloud.len) ((msgOf (⟨(o).op, (o).now, ⟨(o).peers.a, (o).peers.len, (o).peers.cap⟩, (o).kind, (o).frm, (o).req, (o).owner, (o).n⟩ : DoC) n).cloud.cap), .int .i64 ((msgOf (⟨(o).op, (o).now, ⟨(o).peers.a, (o).peers.len, (o).peers.cap⟩, (o).kind, (o).frm, (o).req, (o).owner, (o).n⟩ : DoC) n).owner), .int .i64 ((msgOf (⟨(o).op, (o).now, ⟨(o).peers.a, (o).peers.len, (o).peers.cap⟩, (o).kind, (o).frm, (o).req, (o).owner, (o).n⟩ : DoC) n).part), .int .i64 ((msgOf (⟨(o).op, (o).now, ⟨(o).peers.a, (o).peers.len, (o).peers.cap⟩, (o).kind, (o).frm, (o).req, (o).owner, (o).n⟩ : DoC) n).n), .int .i64 ((msgOf (⟨(o).op, (o).now, ⟨(o).peers.a, (o).peers.len, (o).peers.cap⟩, (o).kind, (o).frm, (o).req, (o).owner, (o).n⟩ : DoC) n).rparts), .int .i64 ((msgOf (⟨(o).op, (o).now, ⟨(o).peers.a, (o).peers.len, (o).peers.cap⟩, (o).kind, (o).frm, (o).req, (o).owner, (o).n⟩ : DoC) n).rcopies), .int .i64 ((msgOf (⟨(o).op, (o).now, ⟨(o).peers.a, (o).peers.len, (o).peers.cap⟩, (o).kind, (o).frm, (o).req, (o).owner, (o).n⟩ : DoC) n).rspots), .slice ((msgOf (⟨(o).op, (o).now, ⟨(o).peers.a, (o).peers.len, (o).peers.cap⟩, (o).kind, (o).frm, (o).req, (o).owner, (o).n⟩ : DoC) n).members.a) ((msgOf (⟨(o).op, (o).now, ⟨(o).peers.a, (o).peers.len, (o).peers.cap⟩, (o).kind, (o).frm, (o).req, (o).owner, (o).n⟩ : DoC) n).members.len) ((msgOf (⟨(o).op, (o).now, ⟨(o).peers.a, (o).peers.len, (o).peers.cap⟩, (o).kind, (o).frm, (o).req, (o).owner, (o).n⟩ : DoC) n).members.cap), .slice ((msgOf (⟨(o).op, (o).now, ⟨(o).peers.a, (o).peers.len, (o).peers.cap⟩, (o).kind, (o).frm, (o).req, (o).owner, (o).n⟩ : DoC) n).peers.a) ((msgOf (⟨(o).op, (o).now, ⟨(o).peers.a, (o).peers.len, (o).peers.cap⟩, (o).kind, (o).frm, (o).req, (o).owner, (o).n⟩ : DoC) n).peers.len) ((msgOf (⟨(o).op, (o).now, ⟨(o).peers.a, (o).peers.len, (o).peers.cap⟩, (o).kind, (o).frm, (o).req, (o).owner, (o).n⟩ : DoC) n).peers.cap), .slice ((msgOf (⟨(o).op, (o).now, ⟨(o).peers.a, (o).peers.len, (o).peers.cap⟩, (o).kind, (o).frm, (o).req, (o).owner, (o).n⟩ : DoC) n).sums.a) ((msgOf (⟨(o).op, (o).now, ⟨(o).peers.a, (o).peers.len, (o).peers.cap⟩, (o).kind, (o).frm, (o).req, (o).owner, (o).n⟩ : DoC) n).sums.len) ((msgOf (⟨(o).op, (o).now, ⟨(o).peers.a, (o).peers.len, (o).peers.cap⟩, (o).kind, (o).frm, (o).req, (o).owner, (o).n⟩ : DoC) n).sums.cap)], .int .i64 ((o).now)]) en26 rfl (On_nil (msgOf (⟨(o).op, (o).now, ⟨(o).peers.a, (o).peers.len, (o).peers.cap⟩, (o).kind, (o).frm, (o).req, (o).owner, (o).n⟩ : DoC) n) ((o).now) _) ?_
  rintro _ w_32 ⟨rfl, K_33⟩
  replace hb_4 := hb_4.ext K_33
  replace hb_9 := hb_9.ext K_33
  replace ho_15 := ho_15.ext K_33
  replace K0 := K0.ext K_33
  refine ⟨.inr ⟨hb_4, trivial⟩, ?_⟩
  refine RT.takeP (v := .tuple #[.slice (none) (0) (0), .slice (none) (0) (0)]) 7 rfl (by kernel_rfl) (.inr ⟨hb_4, trivial⟩) (fun _ => (x_moveT rfl)) ?_
  refine RT.takeP (v := .slice (none) (0) (0)) 8 rfl (by kernel_rfl) (.inr ⟨hb_4, trivial⟩) (fun _ => (x_extract rfl rfl)) ?_
  refine RT.takeP (v := .slice (none) (0) (0)) 9 rfl (by kernel_rfl) (.inr ⟨hb_4, trivial⟩) (fun _ => (x_extract rfl rfl)) ?_
  refine RT.takeP (v := .slice (none) (0) (0)) 10 rfl (by kernel_rfl) (.inr ⟨hb_4, trivial⟩) (fun _ => (x_assignSl rfl)) ?_
  refine RT.takeP (v := .slice (none) (0) (0)) 11 rfl (by kernel_rfl) (.inr ⟨hb_4, trivial⟩) (fun _ => (x_assignSl rfl)) ?_
  refine RT.done (by kernel_rfl) ?_
  refine Run.seq ?_
  refine Run.region ?_
  refine RL.val (x_moveSl rfl) ?_
  refine RL.val (litI (c := 0) (x_lenSl Try.underlying34 rfl) rfl) ?_
  refine RL.val (x_moveSl rfl) ?_
  refine RL.val (litI (c := 0) (x_lenSl Try.underlying34 rfl) rfl) ?_
  refine RL.val (litI (c := 0) (x_add rfl rfl (by decide) (by decide)) (by decide)) ?_
  refine RL.val (x_moveSl rfl) ?_
  refine RL.val (litI (c := 0) (x_lenSl Try.underlying32 rfl) rfl) ?_
  refine RL.val (litI (c := 0) (x_add rfl rfl (by decide) (by decide)) (by decide)) ?_
  refine RL.val (x_moveSl rfl) ?_
  refine RL.val (litI (c := 0) (x_lenSl Try.underlying32 rfl) rfl) ?_
  refine RL.val (litI (c := 0) (x_add rfl rfl (by decide) (by decide)) (by decide)) ?_
  refine RL.val (x_moveP rfl) ?_
  refine RL.val (x_moveSl rfl) ?_
  refine RL.val (x_fld (o' := 1) Try.underlying65 rfl ty3 rfl rfl rfl) ?_
  refine RL.val (x_ld (v := .int .i64 ((o).now)) ty3 rfl rfl (hb_4.cl.field (i := 1) rfl)) ?_
  refine RL.st rfl <| St1.call (vals := [.pointer none, .slice (a0) (n0) (c0), .int .i64 ((o).now)]) en15 rfl (Hear_nil a0 n0 c0 ((o).now) _) ?_
  rintro _ w_34 ⟨rfl, K_35⟩
  replace hb_4 := hb_4.ext K_35
  replace hb_9 := hb_9.ext K_35
  replace ho_15 := ho_15.ext K_35
  replace K0 := K0.ext K_35
  refine RL.val (litI (c := 0) (x_lenSl Try.underlying32 rfl) rfl) ?_
  refine RL.val (litI (c := 0) (x_add rfl rfl (by decide) (by decide)) (by decide)) ?_
  refine RL.val (x_moveP rfl) ?_
  refine RL.st rfl <| St1.call (vals := [.pointer none]) en23 rfl (Peers_nil  _) ?_
  rintro _ w_36 ⟨rfl, K_37⟩
  replace hb_4 := hb_4.ext K_37
  replace hb_9 := hb_9.ext K_37
  replace ho_15 := ho_15.ext K_37
  replace K0 := K0.ext K_37
  refine RL.val (litI (c := 0) (x_lenSl Try.underlying32 rfl) rfl) ?_
  refine RL.val (litI (c := 0) (x_add rfl rfl (by decide) (by decide)) (by decide)) ?_
  refine RL.val (x_moveP rfl) ?_
  refine RL.val (x_moveI rfl) ?_
  refine RL.st rfl <| St1.call (vals := [.pointer none, .int .i64 (n)]) en17 rfl (Status_nil n _) ?_
  rintro _ w_38 ⟨rfl, K_39⟩
  replace hb_4 := hb_4.ext K_39
  replace hb_9 := hb_9.ext K_39
  replace ho_15 := ho_15.ext K_39
  replace K0 := K0.ext K_39
  refine RL.val (litI (c := 0) (x_add rfl rfl (by decide) (by decide)) (by decide)) ?_
  refine RL.val (litF (x_neI rfl rfl) (by decide)) ?_
  refine RL.val (x_moveB rfl) ?_
  refine RL.gst (wantedF1 rfl rfl rfl rfl) <| St1.val (x_moveP rfl) ?_
  refine RL.gst (wantedF1 rfl rfl rfl rfl) <| St1.val (x_moveI rfl) ?_
  refine RL.gst (wantedF1 rfl rfl rfl rfl) <| St1.call (vals := [.pointer none, .int .i64 (n)]) en18 rfl (Up_nil n _) ?_
  rintro _ w_40 ⟨rfl, K_41⟩
  replace hb_4 := hb_4.ext K_41
  replace hb_9 := hb_9.ext K_41
  replace ho_15 := ho_15.ext K_41
  replace K0 := K0.ext K_41
  refine RL.val (x_orF rfl rfl rfl) ?_
  refine RL.nil ?_
  refine Run.condF rfl ?_
  refine Run.skip ?_
  refine Run.inBlock ?_
  refine Run.region ?_
  refine RL.val (litI (c := 1) (x_add rfl rfl (by decide) (by decide)) (by decide)) ?_
  refine RL.val (x_moveI rfl) ?_
  refine RL.nil ?_
  refine Run.inLoop ?_
  refine Run.seq ?_
  refine Run.region ?_
  refine RL.val (litT (x_ltI rfl rfl) (by decide)) ?_
  refine RL.nil ?_
  refine Run.seq ?_
  refine Run.condT rfl ?_
  refine Run.skip ?_
  refine Run.seq ?_
  refine Run.block ?_
  refine Run.seq ?_
  refine Run.region ?_
  obtain ⟨b_42, o_43, x_46, hx_47, ha_44, hc_45⟩ := ho_15.sl.el (i := 1) (by simp)
  obtain rfl : some (⟨b_6, 0, none⟩ : Addr) = x_46 := Option.some.inj hx_47
  refine RL.val (x_idxN Try.underlying72 ty28 rfl rfl ha_44 (by simp)) ?_
  refine RL.val (x_ldV (v := .pointer (some ⟨b_6, 0, none⟩)) (y := some (⟨b_6, 0, none⟩ : Addr)) ty28 rfl hc_45 rfl) ?_
  refine RL.val (x_assignP rfl) ?_
  refine RL.nil ?_
  refine Run.seq ?_
  refine Run.region ?_
  refine RL.val (x_moveP rfl) ?_
  refine RL.val (x_fld (o' := 1) Try.underlying65 rfl ty3 rfl rfl rfl) ?_
  refine RL.val (x_ld (v := .int .i64 ((o).now)) ty3 rfl rfl (hb_4.cl.field (i := 1) rfl)) ?_
  refine RL.st rfl <| St1.call (vals := [.pointer (some ⟨b_6, 0, none⟩), .int .i64 ((o).now)]) en16 rfl (Tick_zero _ ((o).now) _ hb_9) ?_
  rintro _ w_48 ⟨rfl, K_49⟩
  replace hb_4 := hb_4.ext K_49
  replace hb_9 := hb_9.ext K_49
  replace ho_15 := ho_15.ext K_49
  replace K0 := K0.ext K_49
  refine RL.val (x_moveT rfl) ?_
  refine RL.val (x_extract rfl rfl) ?_
  refine RL.val (x_extract rfl rfl) ?_
  refine RL.val (x_assignSl rfl) ?_
  refine RL.val (x_assignSl rfl) ?_
  refine RL.nil ?_
  refine Run.seq ?_
  refine Run.drawT [] (m := 12) (by kernel_rfl) rfl ?_
  intro w_50 K_51
  replace hb_4 := hb_4.ext K_51
  replace hb_9 := hb_9.ext K_51
  replace ho_15 := ho_15.ext K_51
  replace K0 := K0.ext K_51
  refine ⟨fun w' => Blk w' b_1 [.int .i64 ((o).op), .int .i64 ((o).now), .slice ((o).peers.a) ((o).peers.len) ((o).peers.cap), .int .i64 ((o).kind), .int .i64 ((o).frm), .int .i64 ((o).req), .int .i64 ((o).owner), .int .i64 ((o).n)] 65 ∧ True, ?_⟩
  refine RT.takeP (v := .pointer (some ⟨b_6, 0, none⟩)) 0 rfl (by kernel_rfl) (.inr ⟨hb_4, trivial⟩) (fun _ => (x_moveP rfl)) ?_
  refine RT.take (v := .agg #[.int .i64 ((o).op), .int .i64 ((o).now), .slice ((o).peers.a) ((o).peers.len) ((o).peers.cap), .int .i64 ((o).kind), .int .i64 ((o).frm), .int .i64 ((o).req), .int .i64 ((o).owner), .int .i64 ((o).n)]) 1 rfl (by kernel_rfl) ⟨hb_4, trivial⟩ (by rintro _ ⟨hb_4, -⟩; exact (x_lds (cs := #[.int .i64 ((o).op), .int .i64 ((o).now), .slice ((o).peers.a) ((o).peers.len) ((o).peers.cap), .int .i64 ((o).kind), .int .i64 ((o).frm), .int .i64 ((o).req), .int .i64 ((o).owner), .int .i64 ((o).n)]) ty65 rfl rfl (hb_4.cl.drop 0 8))) ?_
  refine RT.takeP (v := .int .i64 (n)) 2 rfl (by kernel_rfl) (.inr ⟨hb_4, trivial⟩) (fun _ => (x_moveI rfl)) ?_
  refine RT.takeP (v := .pointer (some ⟨b_1, 1, none⟩)) 4 rfl (by kernel_rfl) (.inr ⟨hb_4, trivial⟩) (fun _ => (x_fld (o' := 1) Try.underlying65 rfl ty3 rfl rfl rfl)) ?_
  refine RT.take (v := .int .i64 ((o).now)) 5 rfl (by kernel_rfl) ⟨hb_4, trivial⟩ (by rintro _ ⟨hb_4, -⟩; exact (x_ld (v := .int .i64 ((o).now)) ty3 rfl rfl (hb_4.cl.field (i := 1) rfl))) ?_
  refine RT.st 3 rfl (by kernel_rfl) rfl <| St1.call (vals := [.agg #[.int .i64 ((o).op), .int .i64 ((o).now), .slice ((o).peers.a) ((o).peers.len) ((o).peers.cap), .int .i64 ((o).kind), .int .i64 ((o).frm), .int .i64 ((o).req), .int .i64 ((o).owner), .int .i64 ((o).n)], .int .i64 (n)]) en27 rfl (msg_ (⟨(o).op, (o).now, ⟨(o).peers.a, (o).peers.len, (o).peers.cap⟩, (o).kind, (o).frm, (o).req, (o).owner, (o).n⟩ : DoC) n _) ?_
  rintro _ w_52 ⟨rfl, K_53⟩
  replace hb_4 := hb_4.ext K_53
  replace hb_9 := hb_9.ext K_53
  replace ho_15 := ho_15.ext K_53
  replace K0 := K0.ext K_53
  refine ⟨.inr ⟨hb_4, trivial⟩, ?_⟩
  refine RT.st 6 rfl (by kernel_rfl) rfl <| St1.call (vals := [.pointer (some ⟨b_6, 0, none⟩), .agg #[.int .i64 ((msgOf (⟨(o).op, (o).now, ⟨(o).peers.a, (o).peers.len, (o).peers.cap⟩, (o).kind, (o).frm, (o).req, (o).owner, (o).n⟩ : DoC) n).kind), .int .i64 ((msgOf (⟨(o).op, (o).now, ⟨(o).peers.a, (o).peers.len, (o).peers.cap⟩, (o).kind, (o).frm, (o).req, (o).owner, (o).n⟩ : DoC) n).frm), .int .i64 ((msgOf (⟨(o).op, (o).now, ⟨(o).peers.a, (o).peers.len, (o).peers.cap⟩, (o).kind, (o).frm, (o).req, (o).owner, (o).n⟩ : DoC) n).to), .int .i64 ((msgOf (⟨(o).op, (o).now, ⟨(o).peers.a, (o).peers.len, (o).peers.cap⟩, (o).kind, (o).frm, (o).req, (o).owner, (o).n⟩ : DoC) n).req), .string ((msgOf (⟨(o).op, (o).now, ⟨(o).peers.a, (o).peers.len, (o).peers.cap⟩, (o).kind, (o).frm, (o).req, (o).owner, (o).n⟩ : DoC) n).key), .slice ((msgOf (⟨(o).op, (o).now, ⟨(o).peers.a, (o).peers.len, (o).peers.cap⟩, (o).kind, (o).frm, (o).req, (o).owner, (o).n⟩ : DoC) n).entries.a) ((msgOf (⟨(o).op, (o).now, ⟨(o).peers.a, (o).peers.len, (o).peers.cap⟩, (o).kind, (o).frm, (o).req, (o).owner, (o).n⟩ : DoC) n).entries.len) ((msgOf (⟨(o).op, (o).now, ⟨(o).peers.a, (o).peers.len, (o).peers.cap⟩, (o).kind, (o).frm, (o).req, (o).owner, (o).n⟩ : DoC) n).entries.cap), .slice ((msgOf (⟨(o).op, (o).now, ⟨(o).peers.a, (o).peers.len, (o).peers.cap⟩, (o).kind, (o).frm, (o).req, (o).owner, (o).n⟩ : DoC) n).marks.a) ((msgOf (⟨(o).op, (o).now, ⟨(o).peers.a, (o).peers.len, (o).peers.cap⟩, (o).kind, (o).frm, (o).req, (o).owner, (o).n⟩ : DoC) n).marks.len) ((msgOf (⟨(o).op, (o).now, ⟨(o).peers.a, (o).peers.len, (o).peers.cap⟩, (o).kind, (o).frm, (o).req, (o).owner, (o).n⟩ : DoC) n).marks.cap), .slice ((msgOf (⟨(o).op, (o).now, ⟨(o).peers.a, (o).peers.len, (o).peers.cap⟩, (o).kind, (o).frm, (o).req, (o).owner, (o).n⟩ : DoC) n).cloud.a) ((msgOf (⟨(o).op, (o).now, ⟨(o).peers.a, (o).peers.len, (o).peers.cap⟩, (o).kind, (o).frm, (o).req, (o).owner, (o).n⟩ : DoC) n).cloud.len) ((msgOf (⟨(o).op, (o).now, ⟨(o).peers.a, (o).peers.len, (o).peers.cap⟩, (o).kind, (o).frm, (o).req, (o).owner, (o).n⟩ : DoC) n).cloud.cap), .int .i64 ((msgOf (⟨(o).op, (o).now, ⟨(o).peers.a, (o).peers.len, (o).peers.cap⟩, (o).kind, (o).frm, (o).req, (o).owner, (o).n⟩ : DoC) n).owner), .int .i64 ((msgOf (⟨(o).op, (o).now, ⟨(o).peers.a, (o).peers.len, (o).peers.cap⟩, (o).kind, (o).frm, (o).req, (o).owner, (o).n⟩ : DoC) n).part), .int .i64 ((msgOf (⟨(o).op, (o).now, ⟨(o).peers.a, (o).peers.len, (o).peers.cap⟩, (o).kind, (o).frm, (o).req, (o).owner, (o).n⟩ : DoC) n).n), .int .i64 ((msgOf (⟨(o).op, (o).now, ⟨(o).peers.a, (o).peers.len, (o).peers.cap⟩, (o).kind, (o).frm, (o).req, (o).owner, (o).n⟩ : DoC) n).rparts), .int .i64 ((msgOf (⟨(o).op, (o).now, ⟨(o).peers.a, (o).peers.len, (o).peers.cap⟩, (o).kind, (o).frm, (o).req, (o).owner, (o).n⟩ : DoC) n).rcopies), .int .i64 ((msgOf (⟨(o).op, (o).now, ⟨(o).peers.a, (o).peers.len, (o).peers.cap⟩, (o).kind, (o).frm, (o).req, (o).owner, (o).n⟩ : DoC) n).rspots), .slice ((msgOf (⟨(o).op, (o).now, ⟨(o).peers.a, (o).peers.len, (o).peers.cap⟩, (o).kind, (o).frm, (o).req, (o).owner, (o).n⟩ : DoC) n).members.a) ((msgOf (⟨(o).op, (o).now, ⟨(o).peers.a, (o).peers.len, (o).peers.cap⟩, (o).kind, (o).frm, (o).req, (o).owner, (o).n⟩ : DoC) n).members.len) ((msgOf (⟨(o).op, (o).now, ⟨(o).peers.a, (o).peers.len, (o).peers.cap⟩, (o).kind, (o).frm, (o).req, (o).owner, (o).n⟩ : DoC) n).members.cap), .slice ((msgOf (⟨(o).op, (o).now, ⟨(o).peers.a, (o).peers.len, (o).peers.cap⟩, (o).kind, (o).frm, (o).req, (o).owner, (o).n⟩ : DoC) n).peers.a) ((msgOf (⟨(o).op, (o).now, ⟨(o).peers.a, (o).peers.len, (o).peers.cap⟩, (o).kind, (o).frm, (o).req, (o).owner, (o).n⟩ : DoC) n).peers.len) ((msgOf (⟨(o).op, (o).now, ⟨(o).peers.a, (o).peers.len, (o).peers.cap⟩, (o).kind, (o).frm, (o).req, (o).owner, (o).n⟩ : DoC) n).peers.cap), .slice ((msgOf (⟨(o).op, (o).now, ⟨(o).peers.a, (o).peers.len, (o).peers.cap⟩, (o).kind, (o).frm, (o).req, (o).owner, (o).n⟩ : DoC) n).sums.a) ((msgOf (⟨(o).op, (o).now, ⟨(o).peers.a, (o).peers.len, (o).peers.cap⟩, (o).kind, (o).frm, (o).req, (o).owner, (o).n⟩ : DoC) n).sums.len) ((msgOf (⟨(o).op, (o).now, ⟨(o).peers.a, (o).peers.len, (o).peers.cap⟩, (o).kind, (o).frm, (o).req, (o).owner, (o).n⟩ : DoC) n).sums.cap)], .int .i64 ((o).now)]) en26 rfl (On_zero _ (msgOf (⟨(o).op, (o).now, ⟨(o).peers.a, (o).peers.len, (o).peers.cap⟩, (o).kind, (o).frm, (o).req, (o).owner, (o).n⟩ : DoC) n) ((o).now) _ hb_9) ?_
  rintro _ w_54 ⟨rfl, K_55⟩
  replace hb_4 := hb_4.ext K_55
  replace hb_9 := hb_9.ext K_55
  replace ho_15 := ho_15.ext K_55
  replace K0 := K0.ext K_55
  refine ⟨.inr ⟨hb_4, trivial⟩, ?_⟩
  refine RT.takeP (v := .tuple #[.slice (none) (0) (0), .slice (none) (0) (0)]) 7 rfl (by kernel_rfl) (.inr ⟨hb_4, trivial⟩) (fun _ => (x_moveT rfl)) ?_
  refine RT.takeP (v := .slice (none) (0) (0)) 8 rfl (by kernel_rfl) (.inr ⟨hb_4, trivial⟩) (fun _ => (x_extract rfl rfl)) ?_
  refine RT.takeP (v := .slice (none) (0) (0)) 9 rfl (by kernel_rfl) (.inr ⟨hb_4, trivial⟩) (fun _ => (x_extract rfl rfl)) ?_
  refine RT.takeP (v := .slice (none) (0) (0)) 10 rfl (by kernel_rfl) (.inr ⟨hb_4, trivial⟩) (fun _ => (x_assignSl rfl)) ?_
  refine RT.takeP (v := .slice (none) (0) (0)) 11 rfl (by kernel_rfl) (.inr ⟨hb_4, trivial⟩) (fun _ => (x_assignSl rfl)) ?_
  refine RT.done (by kernel_rfl) ?_
  refine Run.seq ?_
  refine Run.region ?_
  refine RL.val (x_moveSl rfl) ?_
  refine RL.val (litI (c := 0) (x_lenSl Try.underlying34 rfl) rfl) ?_
  refine RL.val (x_moveSl rfl) ?_
  refine RL.val (litI (c := 0) (x_lenSl Try.underlying34 rfl) rfl) ?_
  refine RL.val (litI (c := 0) (x_add rfl rfl (by decide) (by decide)) (by decide)) ?_
  refine RL.val (x_moveSl rfl) ?_
  refine RL.val (litI (c := 0) (x_lenSl Try.underlying32 rfl) rfl) ?_
  refine RL.val (litI (c := 0) (x_add rfl rfl (by decide) (by decide)) (by decide)) ?_
  refine RL.val (x_moveSl rfl) ?_
  refine RL.val (litI (c := 0) (x_lenSl Try.underlying32 rfl) rfl) ?_
  refine RL.val (litI (c := 0) (x_add rfl rfl (by decide) (by decide)) (by decide)) ?_
  refine RL.val (x_moveP rfl) ?_
  refine RL.val (x_moveSl rfl) ?_
  refine RL.val (x_fld (o' := 1) Try.underlying65 rfl ty3 rfl rfl rfl) ?_
  refine RL.val (x_ld (v := .int .i64 ((o).now)) ty3 rfl rfl (hb_4.cl.field (i := 1) rfl)) ?_
  refine RL.st rfl <| St1.call (vals := [.pointer (some ⟨b_6, 0, none⟩), .slice (a0) (n0) (c0), .int .i64 ((o).now)]) en15 rfl (Hear_zero _ a0 n0 c0 ((o).now) _ hb_9) ?_
  rintro _ w_56 ⟨rfl, K_57⟩
  replace hb_4 := hb_4.ext K_57
  replace hb_9 := hb_9.ext K_57
  replace ho_15 := ho_15.ext K_57
  replace K0 := K0.ext K_57
  refine RL.val (litI (c := 0) (x_lenSl Try.underlying32 rfl) rfl) ?_
  refine RL.val (litI (c := 0) (x_add rfl rfl (by decide) (by decide)) (by decide)) ?_
  refine RL.val (x_moveP rfl) ?_
  refine RL.st rfl <| St1.call (vals := [.pointer (some ⟨b_6, 0, none⟩)]) en23 rfl (Peers_zero _  _ hb_9) ?_
  rintro _ w_58 ⟨rfl, K_59⟩
  replace hb_4 := hb_4.ext K_59
  replace hb_9 := hb_9.ext K_59
  replace ho_15 := ho_15.ext K_59
  replace K0 := K0.ext K_59
  refine RL.val (litI (c := 0) (x_lenSl Try.underlying32 rfl) rfl) ?_
  refine RL.val (litI (c := 0) (x_add rfl rfl (by decide) (by decide)) (by decide)) ?_
  refine RL.val (x_moveP rfl) ?_
  refine RL.val (x_moveI rfl) ?_
  refine RL.st rfl <| St1.call (vals := [.pointer (some ⟨b_6, 0, none⟩), .int .i64 (n)]) en17 rfl (Status_zero _ n _ hb_9) ?_
  rintro _ w_60 ⟨rfl, K_61⟩
  replace hb_4 := hb_4.ext K_61
  replace hb_9 := hb_9.ext K_61
  replace ho_15 := ho_15.ext K_61
  replace K0 := K0.ext K_61
  refine RL.val (litI (c := 0) (x_add rfl rfl (by decide) (by decide)) (by decide)) ?_
  refine RL.val (litF (x_neI rfl rfl) (by decide)) ?_
  refine RL.val (x_moveB rfl) ?_
  refine RL.gst (wantedF1 rfl rfl rfl rfl) <| St1.val (x_moveP rfl) ?_
  refine RL.gst (wantedF1 rfl rfl rfl rfl) <| St1.val (x_moveI rfl) ?_
  refine RL.gst (wantedF1 rfl rfl rfl rfl) <| St1.call (vals := [.pointer (some ⟨b_6, 0, none⟩), .int .i64 (n)]) en18 rfl (Up_zero _ n _ hb_9) ?_
  rintro _ w_62 ⟨rfl, K_63⟩
  replace hb_4 := hb_4.ext K_63
  replace hb_9 := hb_9.ext K_63
  replace ho_15 := ho_15.ext K_63
  replace K0 := K0.ext K_63
  refine RL.val (x_orF rfl rfl rfl) ?_
  refine RL.nil ?_
  refine Run.condF rfl ?_
  refine Run.skip ?_
  refine Run.inBlock ?_
  refine Run.region ?_
  refine RL.val (litI (c := 2) (x_add rfl rfl (by decide) (by decide)) (by decide)) ?_
  refine RL.val (x_moveI rfl) ?_
  refine RL.nil ?_
  refine Run.inLoop ?_
  refine Run.seq ?_
  refine Run.region ?_
  refine RL.val (litF (x_ltI rfl rfl) (by decide)) ?_
  refine RL.nil ?_
  refine Run.seq ?_
  refine Run.condF rfl ?_
  refine Run.exit rfl ?_
  refine Run.seq ?_
  refine Run.region ?_
  refine RL.st rfl <| St1.call (vals := []) en13 rfl (awake_ _) ?_
  rintro _ w_64 ⟨rfl, K_65⟩
  replace hb_4 := hb_4.ext K_65
  replace hb_9 := hb_9.ext K_65
  replace ho_15 := ho_15.ext K_65
  replace K0 := K0.ext K_65
  refine RL.val (x_assignB rfl) ?_
  refine RL.nil ?_
  refine Run.ret1 (v := .bool (true)) Try.func8 rfl rfl ?_
  exact ⟨_, rfl, rfl, K0⟩

end Go.Proofs.Ytagfdmdajmkddaa
