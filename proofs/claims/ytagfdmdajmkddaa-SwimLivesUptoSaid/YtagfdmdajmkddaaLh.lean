/-
  SwimNone.
-/
import Derived.Test.YtagfdmdajmkddaaRows
import Derived.Test.YtagfdmdajmkddaaLg
namespace Go.Proofs.Ytagfdmdajmkddaa
attribute [local irreducible] St1 RL RA RT RT1 Run

open Sa
structure DoC where
  op : Int
  now : Int
  peers : SH
  kind : Int
  frm : Int
  req : Int
  owner : Int
  n : Int
instance : Enc DoC := Enc.struct (fun t => [.int .i64 t.op, .int .i64 t.now, .slice t.peers.a t.peers.len t.peers.cap, .int .i64 t.kind, .int .i64 t.frm, .int .i64 t.req, .int .i64 t.owner, .int .i64 t.n]) 8 (fun _ => rfl) (fun _ v hv => by simp at hv; rcases hv with rfl | rfl | rfl | rfl | rfl | rfl | rfl | rfl <;> rfl) (by decide)
def msgOf (o : DoC) (to : Int) : MsgC := mkMsg o.kind o.frm to o.req o.owner o.n

theorem ty65 : Ty Try.prog 65 8 80 (.agg #[.int .i64 (0), .int .i64 (0), .slice (none) (0) (0), .int .i64 (0), .int .i64 (0), .int .i64 (0), .int .i64 (0), .int .i64 (0)]) true := ty_of (by kernel_rfl) (by kernel_rfl)
theorem en18 : Enters Try.prog 18 := enters_of Try.func18 rfl (by kernel_rfl)
theorem en23 : Enters Try.prog 23 := enters_of Try.func23 rfl (by kernel_rfl)
theorem en26 : Enters Try.prog 26 := enters_of Try.func26 rfl (by kernel_rfl)
theorem en27 : Enters Try.prog 27 := enters_of Try.func27 rfl (by kernel_rfl)

set_option maxRecDepth 100000 in
set_option maxHeartbeats 4000000 in
theorem msg_ (o : DoC) (to : Int) (w : World) :
    Calls Try.prog 27 #[.agg #[.int .i64 ((o).op), .int .i64 ((o).now), .slice ((o).peers.a) ((o).peers.len) ((o).peers.cap), .int .i64 ((o).kind), .int .i64 ((o).frm), .int .i64 ((o).req), .int .i64 ((o).owner), .int .i64 ((o).n)], .int .i64 (to)] w (Ret (fun v w' => v = Enc.val (msgOf o to) ∧ Ext w w')) := by
  refine calls_run (n := 17) Try.func27 rfl rfl rfl ?_
  refine Run.seq ?_
  refine Run.region ?_
  refine RL.st rfl <| St1.box (v := .agg #[.int .i64 ((o).op), .int .i64 ((o).now), .slice ((o).peers.a) ((o).peers.len) ((o).peers.cap), .int .i64 ((o).kind), .int .i64 ((o).frm), .int .i64 ((o).req), .int .i64 ((o).owner), .int .i64 ((o).n)]) rfl ?_
  intro b_1 w_2 hl_5 hb_4 K_3
  replace hb_4 : Blk w_2 b_1 [.int .i64 ((o).op), .int .i64 ((o).now), .slice ((o).peers.a) ((o).peers.len) ((o).peers.cap), .int .i64 ((o).kind), .int .i64 ((o).frm), .int .i64 ((o).req), .int .i64 ((o).owner), .int .i64 ((o).n)] 65 := hb_4
  have : w.heap.size ≤ b_1 := hl_5
  clear hl_5
  have K0 := (K_3 : Ext w _)
  refine RL.st rfl <| St1.alloc ty61 ?_
  intro b_6 w_7 hl_10 hb_9 K_8
  replace hb_9 : Blk w_7 b_6 [.int .i64 (0), .int .i64 (0), .int .i64 (0), .int .i64 (0), .string (⟨#[]⟩), .slice (none) (0) (0), .slice (none) (0) (0), .slice (none) (0) (0), .int .i64 (0), .int .i64 (0), .int .i64 (0), .int .i64 (0), .int .i64 (0), .int .i64 (0), .slice (none) (0) (0), .slice (none) (0) (0), .slice (none) (0) (0)] 61 := hb_9
  have ne_11 : b_1 < b_6 := Nat.lt_of_lt_of_le hb_4.lt hl_10
  have : w.heap.size ≤ b_6 := Nat.le_trans K0.size hl_10
  clear hl_10
  replace hb_4 := hb_4.ext K_8
  replace K0 := K0.ext K_8
  refine RL.nil ?_
  refine Run.seq ?_
  refine Run.region ?_
  refine RL.val (x_fld (o' := 3) Try.underlying65 rfl ty3 rfl rfl rfl) ?_
  refine RL.val (x_ld (v := .int .i64 ((o).kind)) ty3 rfl rfl (hb_4.cl.field (i := 3) rfl)) ?_
  refine RL.val (x_fld (o' := 4) Try.underlying65 rfl ty3 rfl rfl rfl) ?_
  refine RL.val (x_ld (v := .int .i64 ((o).frm)) ty3 rfl rfl (hb_4.cl.field (i := 4) rfl)) ?_
  refine RL.val (x_moveI rfl) ?_
  refine RL.val (x_fld (o' := 5) Try.underlying65 rfl ty3 rfl rfl rfl) ?_
  refine RL.val (x_ld (v := .int .i64 ((o).req)) ty3 rfl rfl (hb_4.cl.field (i := 5) rfl)) ?_
  refine RL.val (x_fld (o' := 6) Try.underlying65 rfl ty3 rfl rfl rfl) ?_
  refine RL.val (x_ld (v := .int .i64 ((o).owner)) ty3 rfl rfl (hb_4.cl.field (i := 6) rfl)) ?_
  refine RL.val (x_fld (o' := 7) Try.underlying65 rfl ty3 rfl rfl rfl) ?_
  refine RL.val (x_ld (v := .int .i64 ((o).n)) ty3 rfl rfl (hb_4.cl.field (i := 7) rfl)) ?_
  refine RL.val (x_build (cells := #[.int .i64 ((o).kind), .int .i64 ((o).frm), .int .i64 (to), .int .i64 ((o).req), .string (⟨#[]⟩), .slice (none) (0) (0), .slice (none) (0) (0), .slice (none) (0) (0), .int .i64 ((o).owner), .int .i64 (0), .int .i64 ((o).n), .int .i64 (0), .int .i64 (0), .int .i64 (0), .slice (none) (0) (0), .slice (none) (0) (0), .slice (none) (0) (0)]) (by kernel_rfl)) ?_
  refine RL.st rfl <| St1.store (v := .agg #[.int .i64 ((o).kind), .int .i64 ((o).frm), .int .i64 (to), .int .i64 ((o).req), .string (⟨#[]⟩), .slice (none) (0) (0), .slice (none) (0) (0), .slice (none) (0) (0), .int .i64 ((o).owner), .int .i64 (0), .int .i64 ((o).n), .int .i64 (0), .int .i64 (0), .int .i64 (0), .slice (none) (0) (0), .slice (none) (0) (0), .slice (none) (0) (0)]) ty61 rfl rfl rfl (by simp [Value.cells, Value.oneCell']) hb_9 (by simp) ?_
  intro w_12 hb_9_ K_13
  have hb_9' : Blk w_12 b_6 [.int .i64 ((o).kind), .int .i64 ((o).frm), .int .i64 (to), .int .i64 ((o).req), .string (⟨#[]⟩), .slice (none) (0) (0), .slice (none) (0) (0), .slice (none) (0) (0), .int .i64 ((o).owner), .int .i64 (0), .int .i64 ((o).n), .int .i64 (0), .int .i64 (0), .int .i64 (0), .slice (none) (0) (0), .slice (none) (0) (0), .slice (none) (0) (0)] 61 := hb_9_
  clear hb_9_
  replace hb_4 := hb_4.keep K_13 (by simp only [one]; omega)
  replace K0 := K0.new K_13 (fun x hx => by simp only [one] at hx; omega)
  replace hb_9 := hb_9'
  clear hb_9'
  refine RL.nil ?_
  refine Run.retC (cs := #[.int .i64 ((o).kind), .int .i64 ((o).frm), .int .i64 (to), .int .i64 ((o).req), .string (⟨#[]⟩), .slice (none) (0) (0), .slice (none) (0) (0), .slice (none) (0) (0), .int .i64 ((o).owner), .int .i64 (0), .int .i64 ((o).n), .int .i64 (0), .int .i64 (0), .int .i64 (0), .slice (none) (0) (0), .slice (none) (0) (0), .slice (none) (0) (0)]) Try.func27 rfl ty61 rfl rfl hb_9.cl ?_
  exact ⟨_, rfl, rfl, K0⟩

end Go.Proofs.Ytagfdmdajmkddaa
