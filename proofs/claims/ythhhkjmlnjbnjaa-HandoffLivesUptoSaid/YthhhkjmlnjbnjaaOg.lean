/-
  HandoffNone.
-/
import Derived.Test.YthhhkjmlnjbnjaaRows
import Derived.Test.YthhhkjmlnjbnjaaOf
import Derived.Test.YthhhkjmlnjbnjaaSeg
namespace Go.Proofs.Ythhhkjmlnjbnjaa
attribute [local irreducible] St1 RL RA RT RT1 Run

structure DoC where
  op : Int
  part : Int
  to : Int
  keys : SH
  now : Int
  kind : Int
  key : ByteArray
  req : Int
instance : Enc DoC := Enc.struct (fun t => [.int .i64 t.op, .int .i64 t.part, .int .i64 t.to, .slice t.keys.a t.keys.len t.keys.cap, .int .i64 t.now, .int .i64 t.kind, .string t.key, .int .i64 t.req]) 8 (fun _ => rfl) (fun _ v hv => by simp at hv; rcases hv with rfl | rfl | rfl | rfl | rfl | rfl | rfl | rfl <;> rfl) (by decide)
def DoC.msg (o : DoC) (self : Int) : HMsg := ⟨o.kind, o.to, self, o.req, o.key, o.part⟩

theorem ty22 : Ty Try.prog 22 1 24 (.slice (none) (0) (0)) false := ty_of (by kernel_rfl) (by kernel_rfl)
theorem ty24 : Ty Try.prog 24 1 8 (.pointer none) false := ty_of (by kernel_rfl) (by kernel_rfl)
theorem ty57 : Ty Try.prog 57 8 88 (.agg #[.int .i64 (0), .int .i64 (0), .int .i64 (0), .slice (none) (0) (0), .int .i64 (0), .int .i64 (0), .string (⟨#[]⟩), .int .i64 (0)]) true := ty_of (by kernel_rfl) (by kernel_rfl)
theorem en13 : Enters Try.prog 13 := enters_of Try.func13 rfl (by kernel_rfl)
theorem en15 : Enters Try.prog 15 := enters_of Try.func15 rfl (by kernel_rfl)
theorem en18 : Enters Try.prog 18 := enters_of Try.func18 rfl (by kernel_rfl)
theorem en19 : Enters Try.prog 19 := enters_of Try.func19 rfl (by kernel_rfl)
theorem en20 : Enters Try.prog 20 := enters_of Try.func20 rfl (by kernel_rfl)
theorem en21 : Enters Try.prog 21 := enters_of Try.func21 rfl (by kernel_rfl)

set_option maxRecDepth 100000 in
set_option maxHeartbeats 4000000 in
theorem msg_ (o : DoC) (self : Int) (w : World) :
    Calls Try.prog 20 #[.agg #[.int .i64 ((o).op), .int .i64 ((o).part), .int .i64 ((o).to), .slice ((o).keys.a) ((o).keys.len) ((o).keys.cap), .int .i64 ((o).now), .int .i64 ((o).kind), .string ((o).key), .int .i64 ((o).req)], .int .i64 (self)] w (Ret (fun v w' => v = .agg #[.int .i64 (((o.msg self)).kind), .int .i64 (((o.msg self)).frm), .int .i64 (((o.msg self)).to), .int .i64 (((o.msg self)).req), .string (((o.msg self)).key), .slice (none) (0) (0), .slice (none) (0) (0), .slice (none) (0) (0), .int .i64 (0), .int .i64 (((o.msg self)).part), .int .i64 (0), .int .i64 (0), .int .i64 (0), .int .i64 (0), .slice (none) (0) (0), .slice (none) (0) (0), .slice (none) (0) (0)] ∧ Ext w w')) := by
  refine calls_run (n := 17) Try.func20 rfl rfl rfl ?_
  refine Run.seq ?_
  refine Run.region ?_
  refine RL.st rfl <| St1.box (v := .agg #[.int .i64 ((o).op), .int .i64 ((o).part), .int .i64 ((o).to), .slice ((o).keys.a) ((o).keys.len) ((o).keys.cap), .int .i64 ((o).now), .int .i64 ((o).kind), .string ((o).key), .int .i64 ((o).req)]) rfl ?_
  intro b_1 w_2 hl_5 hb_4 K_3
  replace hb_4 : Blk w_2 b_1 [.int .i64 ((o).op), .int .i64 ((o).part), .int .i64 ((o).to), .slice ((o).keys.a) ((o).keys.len) ((o).keys.cap), .int .i64 ((o).now), .int .i64 ((o).kind), .string ((o).key), .int .i64 ((o).req)] 57 := hb_4
  have : w.heap.size ≤ b_1 := hl_5
  clear hl_5
  have K0 := (K_3 : Ext w _)
  refine RL.st rfl <| St1.alloc ty46 ?_
  intro b_6 w_7 hl_10 hb_9 K_8
  replace hb_9 : Blk w_7 b_6 [.int .i64 (0), .int .i64 (0), .int .i64 (0), .int .i64 (0), .string (⟨#[]⟩), .slice (none) (0) (0), .slice (none) (0) (0), .slice (none) (0) (0), .int .i64 (0), .int .i64 (0), .int .i64 (0), .int .i64 (0), .int .i64 (0), .int .i64 (0), .slice (none) (0) (0), .slice (none) (0) (0), .slice (none) (0) (0)] 46 := hb_9
  have ne_11 : b_1 < b_6 := Nat.lt_of_lt_of_le hb_4.lt hl_10
  have : w.heap.size ≤ b_6 := Nat.le_trans K0.size hl_10
  clear hl_10
  replace hb_4 := hb_4.ext K_8
  replace K0 := K0.ext K_8
  refine RL.nil ?_
  refine Run.seq ?_
  refine Run.region ?_
  refine RL.val (x_fld (o' := 5) Try.underlying57 rfl ty3 rfl rfl rfl) ?_
  refine RL.val (x_ld (v := .int .i64 ((o).kind)) ty3 rfl rfl (hb_4.cl.field (i := 5) rfl)) ?_
  refine RL.val (x_fld (o' := 2) Try.underlying57 rfl ty3 rfl rfl rfl) ?_
  refine RL.val (x_ld (v := .int .i64 ((o).to)) ty3 rfl rfl (hb_4.cl.field (i := 2) rfl)) ?_
  refine RL.val (x_moveI rfl) ?_
  refine RL.val (x_fld (o' := 1) Try.underlying57 rfl ty3 rfl rfl rfl) ?_
  refine RL.val (x_ld (v := .int .i64 ((o).part)) ty3 rfl rfl (hb_4.cl.field (i := 1) rfl)) ?_
  refine RL.val (x_fld (o' := 6) Try.underlying57 rfl ty9 rfl rfl rfl) ?_
  refine RL.val (x_ld (v := .string ((o).key)) ty9 rfl rfl (hb_4.cl.field (i := 6) rfl)) ?_
  refine RL.val (x_fld (o' := 7) Try.underlying57 rfl ty3 rfl rfl rfl) ?_
  refine RL.val (x_ld (v := .int .i64 ((o).req)) ty3 rfl rfl (hb_4.cl.field (i := 7) rfl)) ?_
  refine RL.val (x_build (cells := #[.int .i64 ((o).kind), .int .i64 ((o).to), .int .i64 (self), .int .i64 ((o).req), .string ((o).key), .slice (none) (0) (0), .slice (none) (0) (0), .slice (none) (0) (0), .int .i64 (0), .int .i64 ((o).part), .int .i64 (0), .int .i64 (0), .int .i64 (0), .int .i64 (0), .slice (none) (0) (0), .slice (none) (0) (0), .slice (none) (0) (0)]) (by kernel_rfl)) ?_
  refine RL.st rfl <| St1.store (v := .agg #[.int .i64 ((o).kind), .int .i64 ((o).to), .int .i64 (self), .int .i64 ((o).req), .string ((o).key), .slice (none) (0) (0), .slice (none) (0) (0), .slice (none) (0) (0), .int .i64 (0), .int .i64 ((o).part), .int .i64 (0), .int .i64 (0), .int .i64 (0), .int .i64 (0), .slice (none) (0) (0), .slice (none) (0) (0), .slice (none) (0) (0)]) ty46 rfl rfl rfl (by simp [Value.cells, Value.oneCell']) hb_9 (by simp) ?_
  intro w_12 hb_9_ K_13
  have hb_9' : Blk w_12 b_6 [.int .i64 ((o).kind), .int .i64 ((o).to), .int .i64 (self), .int .i64 ((o).req), .string ((o).key), .slice (none) (0) (0), .slice (none) (0) (0), .slice (none) (0) (0), .int .i64 (0), .int .i64 ((o).part), .int .i64 (0), .int .i64 (0), .int .i64 (0), .int .i64 (0), .slice (none) (0) (0), .slice (none) (0) (0), .slice (none) (0) (0)] 46 := hb_9_
  clear hb_9_
  replace hb_4 := hb_4.keep K_13 (by simp only [one]; omega)
  replace K0 := K0.new K_13 (fun x hx => by simp only [one] at hx; omega)
  replace hb_9 := hb_9'
  clear hb_9'
  refine RL.nil ?_
  refine Run.retC (cs := #[.int .i64 ((o).kind), .int .i64 ((o).to), .int .i64 (self), .int .i64 ((o).req), .string ((o).key), .slice (none) (0) (0), .slice (none) (0) (0), .slice (none) (0) (0), .int .i64 (0), .int .i64 ((o).part), .int .i64 (0), .int .i64 (0), .int .i64 (0), .int .i64 (0), .slice (none) (0) (0), .slice (none) (0) (0), .slice (none) (0) (0)]) Try.func20 rfl ty46 rfl rfl hb_9.cl ?_
  exact ⟨_, rfl, rfl, K0⟩

set_option maxRecDepth 100000 in
set_option maxHeartbeats 4000000 in
theorem law_none (o : DoC) (w : World) :
    Calls Try.prog 5 #[.agg #[.int .i64 ((o).op), .int .i64 ((o).part), .int .i64 ((o).to), .slice ((o).keys.a) ((o).keys.len) ((o).keys.cap), .int .i64 ((o).now), .int .i64 ((o).kind), .string ((o).key), .int .i64 ((o).req)]] w (Ret (fun v w' => v = .bool true ∧ Ext w w')) := by
  refine calls_run (n := 66) Try.func5 rfl rfl rfl ?_
  refine Run.seq ?_
  refine Run.region ?_
  refine RL.st rfl <| St1.box (v := .agg #[.int .i64 ((o).op), .int .i64 ((o).part), .int .i64 ((o).to), .slice ((o).keys.a) ((o).keys.len) ((o).keys.cap), .int .i64 ((o).now), .int .i64 ((o).kind), .string ((o).key), .int .i64 ((o).req)]) rfl ?_
  intro b_1 w_2 hl_5 hb_4 K_3
  replace hb_4 : Blk w_2 b_1 [.int .i64 ((o).op), .int .i64 ((o).part), .int .i64 ((o).to), .slice ((o).keys.a) ((o).keys.len) ((o).keys.cap), .int .i64 ((o).now), .int .i64 ((o).kind), .string ((o).key), .int .i64 ((o).req)] 57 := hb_4
  have : w.heap.size ≤ b_1 := hl_5
  clear hl_5
  have K0 := (K_3 : Ext w _)
  refine RL.val (x_assignB rfl) ?_
  refine RL.nil ?_
  refine Run.seq ?_
  refine Run.seq ?_
  refine Run.region ?_
  refine RL.val (x_build (cells := #[.bool (false), .int .i64 (0), .int .i64 (0), .int .i64 (0), .slice (none) (0) (0)]) (by kernel_rfl)) ?_
  refine RL.st rfl <| St1.box (v := .agg #[.bool (false), .int .i64 (0), .int .i64 (0), .int .i64 (0), .slice (none) (0) (0)]) rfl ?_
  intro b_6 w_7 hl_10 hb_9 K_8
  replace hb_9 : Blk w_7 b_6 [.bool (false), .int .i64 (0), .int .i64 (0), .int .i64 (0), .slice (none) (0) (0)] 60 := hb_9
  have ne_11 : b_1 < b_6 := Nat.lt_of_lt_of_le hb_4.lt hl_10
  have : w.heap.size ≤ b_6 := Nat.le_trans K0.size hl_10
  clear hl_10
  replace hb_4 := hb_4.ext K_8
  replace K0 := K0.ext K_8
  refine RL.st rfl <| St1.buildSlice ([(none : Option Addr), some (⟨b_6, 0, none⟩ : Addr)] : List (Option Addr)) Try.underlying61 ty24 rfl rfl (by first | decide | (simp [Enc.size])) ?_
  intro b_12 w_13 hl_16 ho_15 K_14
  have pr_17 : ¬ own (some ⟨b_12, 0, none⟩) b_1 := notNew (ge_new hl_16) hb_4.lt
  have pr_18 : ¬ own (some ⟨b_12, 0, none⟩) b_6 := notNew (ge_new hl_16) hb_9.lt
  have pg_19 : ∀ q_, own (some ⟨b_12, 0, none⟩) q_ → w.heap.size ≤ q_ := fun q_ h => Nat.le_trans K0.size ((ge_new hl_16) q_ h)
  clear hl_16
  replace hb_4 := hb_4.ext K_14
  replace hb_9 := hb_9.ext K_14
  replace K0 := K0.ext K_14
  refine RL.val (litI (c := 2) (x_lenSl Try.underlying61 rfl) rfl) ?_
  refine RL.val (x_moveI rfl) ?_
  refine RL.nil ?_
  refine Run.block ?_
  refine Run.unloop ?_
  refine Run.seq ?_
  refine Run.region ?_
  refine RL.val (litT (x_ltI rfl rfl) (by decide)) ?_
  refine RL.nil ?_
  refine Run.seq ?_
  refine Run.condT rfl ?_
  refine Run.skip ?_
  refine Run.seq ?_
  refine Run.block ?_
  refine Run.seq ?_
  refine Run.region ?_
  obtain ⟨b_20, o_21, x_24, hx_25, ha_22, hc_23⟩ := ho_15.sl.el (i := 0) (by simp)
  obtain rfl : (none : Option Addr) = x_24 := Option.some.inj hx_25
  refine RL.val (x_idxN Try.underlying61 ty24 rfl rfl ha_22 (by simp)) ?_
  refine RL.val (x_ldV (v := .pointer none) (y := (none : Option Addr)) ty24 rfl hc_23 rfl) ?_
  refine RL.val (x_assignP rfl) ?_
  refine RL.nil ?_
  refine Run.seq ?_
  refine Run.seq ?_
  refine Run.region ?_
  refine RL.val (x_moveP rfl) ?_
  refine RL.val (x_fld (o' := 1) Try.underlying57 rfl ty3 rfl rfl rfl) ?_
  refine RL.val (x_ld (v := .int .i64 ((o).part)) ty3 rfl rfl (hb_4.cl.field (i := 1) rfl)) ?_
  refine RL.val (x_fld (o' := 2) Try.underlying57 rfl ty3 rfl rfl rfl) ?_
  refine RL.val (x_ld (v := .int .i64 ((o).to)) ty3 rfl rfl (hb_4.cl.field (i := 2) rfl)) ?_
  refine RL.val (x_fld (o' := 3) Try.underlying57 rfl ty22 rfl rfl rfl) ?_
  refine RL.val (x_ld (v := .slice ((o).keys.a) ((o).keys.len) ((o).keys.cap)) ty22 rfl rfl (hb_4.cl.field (i := 3) rfl)) ?_
  refine RL.st rfl <| St1.call (vals := [.pointer none, .int .i64 ((o).part), .int .i64 ((o).to), .slice ((o).keys.a) ((o).keys.len) ((o).keys.cap)]) en11 rfl (beginNil _ _ ((o).keys.a) ((o).keys.len) ((o).keys.cap) _) ?_
  rintro _ w_26 ⟨rfl, K_27⟩
  replace hb_4 := hb_4.ext K_27
  replace hb_9 := hb_9.ext K_27
  replace ho_15 := ho_15.ext K_27
  replace K0 := K0.ext K_27
  refine RL.val (litF (x_neI rfl rfl) (by decide)) ?_
  refine RL.val (x_moveB rfl) ?_
  refine RL.gst (wantedF1 rfl rfl rfl rfl) <| St1.val (x_moveP rfl) ?_
  refine RL.gst (wantedF1 rfl rfl rfl rfl) <| St1.val (x_fld (o' := 1) Try.underlying57 rfl ty3 rfl rfl rfl) ?_
  refine RL.gst (wantedF1 rfl rfl rfl rfl) <| St1.val (x_ld (v := .int .i64 ((o).part)) ty3 rfl rfl (hb_4.cl.field (i := 1) rfl)) ?_
  refine RL.gst (wantedF1 rfl rfl rfl rfl) <| St1.val (x_fld (o' := 2) Try.underlying57 rfl ty3 rfl rfl rfl) ?_
  refine RL.gst (wantedF1 rfl rfl rfl rfl) <| St1.val (x_ld (v := .int .i64 ((o).to)) ty3 rfl rfl (hb_4.cl.field (i := 2) rfl)) ?_
  refine RL.gst (wantedF1 rfl rfl rfl rfl) <| St1.call (vals := [.pointer none, .int .i64 ((o).part), .int .i64 ((o).to)]) en19 rfl (cancelNil _ _ _) ?_
  rintro _ w_28 ⟨rfl, K_29⟩
  replace hb_4 := hb_4.ext K_29
  replace hb_9 := hb_9.ext K_29
  replace ho_15 := ho_15.ext K_29
  replace K0 := K0.ext K_29
  refine RL.gst (wantedF1 rfl rfl rfl rfl) <| St1.val (litF (x_neI rfl rfl) (by decide)) ?_
  refine RL.val (x_orF rfl rfl rfl) ?_
  refine RL.val (x_moveB rfl) ?_
  refine RL.gst (wantedF1 rfl rfl rfl rfl) <| St1.val (x_moveP rfl) ?_
  refine RL.gst (wantedF1 rfl rfl rfl rfl) <| St1.val (x_fld (o' := 1) Try.underlying57 rfl ty3 rfl rfl rfl) ?_
  refine RL.gst (wantedF1 rfl rfl rfl rfl) <| St1.val (x_ld (v := .int .i64 ((o).part)) ty3 rfl rfl (hb_4.cl.field (i := 1) rfl)) ?_
  refine RL.gst (wantedF1 rfl rfl rfl rfl) <| St1.val (x_fld (o' := 2) Try.underlying57 rfl ty3 rfl rfl rfl) ?_
  refine RL.gst (wantedF1 rfl rfl rfl rfl) <| St1.val (x_ld (v := .int .i64 ((o).to)) ty3 rfl rfl (hb_4.cl.field (i := 2) rfl)) ?_
  refine RL.gst (wantedF1 rfl rfl rfl rfl) <| St1.call (vals := [.pointer none, .int .i64 ((o).part), .int .i64 ((o).to)]) en18 rfl (doneNil _ _ _) ?_
  rintro _ w_30 ⟨rfl, K_31⟩
  replace hb_4 := hb_4.ext K_31
  replace hb_9 := hb_9.ext K_31
  replace ho_15 := ho_15.ext K_31
  replace K0 := K0.ext K_31
  refine RL.val (x_orF rfl rfl rfl) ?_
  refine RL.nil ?_
  refine Run.condF rfl ?_
  refine Run.skip ?_
  refine Run.seq ?_
  refine Run.drawT [] (m := 25) (by kernel_rfl) rfl ?_
  intro w_32 K_33
  replace hb_4 := hb_4.ext K_33
  replace hb_9 := hb_9.ext K_33
  replace ho_15 := ho_15.ext K_33
  replace K0 := K0.ext K_33
  refine ⟨fun w' => Blk w' b_1 [.int .i64 ((o).op), .int .i64 ((o).part), .int .i64 ((o).to), .slice ((o).keys.a) ((o).keys.len) ((o).keys.cap), .int .i64 ((o).now), .int .i64 ((o).kind), .string ((o).key), .int .i64 ((o).req)] 57 ∧ True, ?_⟩
  refine RT.takeP (v := .pointer none) 0 rfl (by kernel_rfl) (.inr ⟨hb_4, trivial⟩) (fun _ => (x_moveP rfl)) ?_
  refine RT.takeP (v := .pointer (some ⟨b_1, 4, none⟩)) 1 rfl (by kernel_rfl) (.inr ⟨hb_4, trivial⟩) (fun _ => (x_fld (o' := 4) Try.underlying57 rfl ty3 rfl rfl rfl)) ?_
  refine RT.take (v := .int .i64 ((o).now)) 2 rfl (by kernel_rfl) ⟨hb_4, trivial⟩ (by rintro _ ⟨hb_4, -⟩; exact (x_ld (v := .int .i64 ((o).now)) ty3 rfl rfl (hb_4.cl.field (i := 4) rfl))) ?_
  refine RT.takeP (v := .pointer none) 5 rfl (by kernel_rfl) (.inr ⟨hb_4, trivial⟩) (fun _ => (x_moveP rfl)) ?_
  refine RT.take (v := .agg #[.int .i64 ((o).op), .int .i64 ((o).part), .int .i64 ((o).to), .slice ((o).keys.a) ((o).keys.len) ((o).keys.cap), .int .i64 ((o).now), .int .i64 ((o).kind), .string ((o).key), .int .i64 ((o).req)]) 6 rfl (by kernel_rfl) ⟨hb_4, trivial⟩ (by rintro _ ⟨hb_4, -⟩; exact (x_lds (cs := #[.int .i64 ((o).op), .int .i64 ((o).part), .int .i64 ((o).to), .slice ((o).keys.a) ((o).keys.len) ((o).keys.cap), .int .i64 ((o).now), .int .i64 ((o).kind), .string ((o).key), .int .i64 ((o).req)]) ty57 rfl rfl (hb_4.cl.drop 0 8))) ?_
  refine RT.takeP (v := .pointer (some ⟨b_1, 4, none⟩)) 8 rfl (by kernel_rfl) (.inr ⟨hb_4, trivial⟩) (fun _ => (x_fld (o' := 4) Try.underlying57 rfl ty3 rfl rfl rfl)) ?_
  refine RT.take (v := .int .i64 ((o).now)) 9 rfl (by kernel_rfl) ⟨hb_4, trivial⟩ (by rintro _ ⟨hb_4, -⟩; exact (x_ld (v := .int .i64 ((o).now)) ty3 rfl rfl (hb_4.cl.field (i := 4) rfl))) ?_
  refine RT.takeP (v := .pointer none) 13 rfl (by kernel_rfl) (.inr ⟨hb_4, trivial⟩) (fun _ => (x_moveP rfl)) ?_
  refine RT.takeP (v := .pointer none) 17 rfl (by kernel_rfl) (.inr ⟨hb_4, trivial⟩) (fun _ => (x_moveP rfl)) ?_
  refine RT.takeP (v := .pointer (some ⟨b_1, 1, none⟩)) 18 rfl (by kernel_rfl) (.inr ⟨hb_4, trivial⟩) (fun _ => (x_fld (o' := 1) Try.underlying57 rfl ty3 rfl rfl rfl)) ?_
  refine RT.take (v := .int .i64 ((o).part)) 19 rfl (by kernel_rfl) ⟨hb_4, trivial⟩ (by rintro _ ⟨hb_4, -⟩; exact (x_ld (v := .int .i64 ((o).part)) ty3 rfl rfl (hb_4.cl.field (i := 1) rfl))) ?_
  refine RT.takeP (v := .pointer (some ⟨b_1, 2, none⟩)) 20 rfl (by kernel_rfl) (.inr ⟨hb_4, trivial⟩) (fun _ => (x_fld (o' := 2) Try.underlying57 rfl ty3 rfl rfl rfl)) ?_
  refine RT.take (v := .int .i64 ((o).to)) 21 rfl (by kernel_rfl) ⟨hb_4, trivial⟩ (by rintro _ ⟨hb_4, -⟩; exact (x_ld (v := .int .i64 ((o).to)) ty3 rfl rfl (hb_4.cl.field (i := 2) rfl))) ?_
  refine RT.st 3 rfl (by kernel_rfl) rfl <| St1.call (vals := [.pointer none, .int .i64 ((o).now)]) en14 rfl (tickNil _ _) ?_
  rintro _ w_34 ⟨rfl, K_35⟩
  replace hb_4 := hb_4.ext K_35
  replace hb_9 := hb_9.ext K_35
  replace ho_15 := ho_15.ext K_35
  replace K0 := K0.ext K_35
  refine ⟨.inr ⟨hb_4, trivial⟩, ?_⟩
  refine RT.takeP (v := .int .i64 (0)) 4 rfl (by kernel_rfl) (.inr ⟨hb_4, trivial⟩) (fun _ => (litI (c := 0) (x_lenSl Try.underlying31 rfl) rfl)) ?_
  refine RT.st 7 rfl (by kernel_rfl) rfl <| St1.call (vals := [.agg #[.int .i64 ((o).op), .int .i64 ((o).part), .int .i64 ((o).to), .slice ((o).keys.a) ((o).keys.len) ((o).keys.cap), .int .i64 ((o).now), .int .i64 ((o).kind), .string ((o).key), .int .i64 ((o).req)], .int .i64 (0)]) en20 rfl (msg_ o 0 _) ?_
  rintro _ w_36 ⟨rfl, K_37⟩
  replace hb_4 := hb_4.ext K_37
  replace hb_9 := hb_9.ext K_37
  replace ho_15 := ho_15.ext K_37
  replace K0 := K0.ext K_37
  refine ⟨.inr ⟨hb_4, trivial⟩, ?_⟩
  refine RT.st 10 rfl (by kernel_rfl) rfl <| St1.call (vals := [.pointer none, .agg #[.int .i64 (((DoC.msg o 0)).kind), .int .i64 (((DoC.msg o 0)).frm), .int .i64 (((DoC.msg o 0)).to), .int .i64 (((DoC.msg o 0)).req), .string (((DoC.msg o 0)).key), .slice (none) (0) (0), .slice (none) (0) (0), .slice (none) (0) (0), .int .i64 (0), .int .i64 (((DoC.msg o 0)).part), .int .i64 (0), .int .i64 (0), .int .i64 (0), .int .i64 (0), .slice (none) (0) (0), .slice (none) (0) (0), .slice (none) (0) (0)], .int .i64 ((o).now)]) en15 rfl (onNil _ _ _) ?_
  rintro _ w_38 ⟨rfl, K_39⟩
  replace hb_4 := hb_4.ext K_39
  replace hb_9 := hb_9.ext K_39
  replace ho_15 := ho_15.ext K_39
  replace K0 := K0.ext K_39
  refine ⟨.inr ⟨hb_4, trivial⟩, ?_⟩
  refine RT.takeP (v := .int .i64 (0)) 11 rfl (by kernel_rfl) (.inr ⟨hb_4, trivial⟩) (fun _ => (litI (c := 0) (x_lenSl Try.underlying31 rfl) rfl)) ?_
  refine RT.takeP (v := .int .i64 (0)) 12 rfl (by kernel_rfl) (.inr ⟨hb_4, trivial⟩) (fun _ => (litI (c := 0) (x_add rfl rfl (by decide) (by decide)) (by decide))) ?_
  refine RT.st 14 rfl (by kernel_rfl) rfl <| St1.call (vals := [.pointer none]) en21 rfl (openNil  _) ?_
  rintro _ w_40 ⟨rfl, K_41⟩
  replace hb_4 := hb_4.ext K_41
  replace hb_9 := hb_9.ext K_41
  replace ho_15 := ho_15.ext K_41
  replace K0 := K0.ext K_41
  refine ⟨.inr ⟨hb_4, trivial⟩, ?_⟩
  refine RT.takeP (v := .int .i64 (0)) 15 rfl (by kernel_rfl) (.inr ⟨hb_4, trivial⟩) (fun _ => (litI (c := 0) (x_lenSl Try.underlying64 rfl) rfl)) ?_
  refine RT.takeP (v := .int .i64 (0)) 16 rfl (by kernel_rfl) (.inr ⟨hb_4, trivial⟩) (fun _ => (litI (c := 0) (x_add rfl rfl (by decide) (by decide)) (by decide))) ?_
  refine RT.st 22 rfl (by kernel_rfl) rfl <| St1.call (vals := [.pointer none, .int .i64 ((o).part), .int .i64 ((o).to)]) en17 rfl (leftNil _ _ _) ?_
  rintro _ w_42 ⟨rfl, K_43⟩
  replace hb_4 := hb_4.ext K_43
  replace hb_9 := hb_9.ext K_43
  replace ho_15 := ho_15.ext K_43
  replace K0 := K0.ext K_43
  refine ⟨.inr ⟨hb_4, trivial⟩, ?_⟩
  refine RT.takeP (v := .int .i64 (0)) 23 rfl (by kernel_rfl) (.inr ⟨hb_4, trivial⟩) (fun _ => (litI (c := 0) (x_add rfl rfl (by decide) (by decide)) (by decide))) ?_
  refine RT.takeP (v := .bool (false)) 24 rfl (by kernel_rfl) (.inr ⟨hb_4, trivial⟩) (fun _ => (litF (x_neI rfl rfl) (by decide))) ?_
  refine RT.done (by kernel_rfl) ?_
  refine Run.condF rfl ?_
  refine Run.skip ?_
  refine Run.inBlock ?_
  refine Run.region ?_
  refine RL.val (litI (c := 1) (x_add rfl rfl (by decide) (by decide)) (by decide)) ?_
  refine RL.val (x_moveI rfl) ?_
  refine RL.nil ?_
  refine Run.inLoop ?_
  refine Run.seq ?_
  refine Run.region ?_
  refine RL.val (litT (x_ltI rfl rfl) (by decide)) ?_
  refine RL.nil ?_
  refine Run.seq ?_
  refine Run.condT rfl ?_
  refine Run.skip ?_
  refine Run.seq ?_
  refine Run.block ?_
  refine Run.seq ?_
  refine Run.region ?_
  obtain ⟨b_44, o_45, x_48, hx_49, ha_46, hc_47⟩ := ho_15.sl.el (i := 1) (by simp)
  obtain rfl : some (⟨b_6, 0, none⟩ : Addr) = x_48 := Option.some.inj hx_49
  refine RL.val (x_idxN Try.underlying61 ty24 rfl rfl ha_46 (by simp)) ?_
  refine RL.val (x_ldV (v := .pointer (some ⟨b_6, 0, none⟩)) (y := some (⟨b_6, 0, none⟩ : Addr)) ty24 rfl hc_47 rfl) ?_
  refine RL.val (x_assignP rfl) ?_
  refine RL.nil ?_
  refine Run.seq ?_
  refine Run.seq ?_
  refine Run.region ?_
  refine RL.val (x_moveP rfl) ?_
  refine RL.val (x_fld (o' := 1) Try.underlying57 rfl ty3 rfl rfl rfl) ?_
  refine RL.val (x_ld (v := .int .i64 ((o).part)) ty3 rfl rfl (hb_4.cl.field (i := 1) rfl)) ?_
  refine RL.val (x_fld (o' := 2) Try.underlying57 rfl ty3 rfl rfl rfl) ?_
  refine RL.val (x_ld (v := .int .i64 ((o).to)) ty3 rfl rfl (hb_4.cl.field (i := 2) rfl)) ?_
  refine RL.val (x_fld (o' := 3) Try.underlying57 rfl ty22 rfl rfl rfl) ?_
  refine RL.val (x_ld (v := .slice ((o).keys.a) ((o).keys.len) ((o).keys.cap)) ty22 rfl rfl (hb_4.cl.field (i := 3) rfl)) ?_
  refine RL.st rfl <| St1.call (vals := [.pointer (some ⟨b_6, 0, none⟩), .int .i64 ((o).part), .int .i64 ((o).to), .slice ((o).keys.a) ((o).keys.len) ((o).keys.cap)]) en11 rfl (beginZero _ _ _ ((o).keys.a) ((o).keys.len) ((o).keys.cap) _ hb_9) ?_
  rintro _ w_50 ⟨rfl, K_51⟩
  replace hb_4 := hb_4.ext K_51
  replace hb_9 := hb_9.ext K_51
  replace ho_15 := ho_15.ext K_51
  replace K0 := K0.ext K_51
  refine RL.val (litF (x_neI rfl rfl) (by decide)) ?_
  refine RL.val (x_moveB rfl) ?_
  refine RL.gst (wantedF1 rfl rfl rfl rfl) <| St1.val (x_moveP rfl) ?_
  refine RL.gst (wantedF1 rfl rfl rfl rfl) <| St1.val (x_fld (o' := 1) Try.underlying57 rfl ty3 rfl rfl rfl) ?_
  refine RL.gst (wantedF1 rfl rfl rfl rfl) <| St1.val (x_ld (v := .int .i64 ((o).part)) ty3 rfl rfl (hb_4.cl.field (i := 1) rfl)) ?_
  refine RL.gst (wantedF1 rfl rfl rfl rfl) <| St1.val (x_fld (o' := 2) Try.underlying57 rfl ty3 rfl rfl rfl) ?_
  refine RL.gst (wantedF1 rfl rfl rfl rfl) <| St1.val (x_ld (v := .int .i64 ((o).to)) ty3 rfl rfl (hb_4.cl.field (i := 2) rfl)) ?_
  refine RL.gst (wantedF1 rfl rfl rfl rfl) <| St1.call (vals := [.pointer (some ⟨b_6, 0, none⟩), .int .i64 ((o).part), .int .i64 ((o).to)]) en19 rfl (cancelZero _ _ _ _ hb_9) ?_
  rintro _ w_52 ⟨rfl, K_53⟩
  replace hb_4 := hb_4.ext K_53
  replace hb_9 := hb_9.ext K_53
  replace ho_15 := ho_15.ext K_53
  replace K0 := K0.ext K_53
  refine RL.gst (wantedF1 rfl rfl rfl rfl) <| St1.val (litF (x_neI rfl rfl) (by decide)) ?_
  refine RL.val (x_orF rfl rfl rfl) ?_
  refine RL.val (x_moveB rfl) ?_
  refine RL.gst (wantedF1 rfl rfl rfl rfl) <| St1.val (x_moveP rfl) ?_
  refine RL.gst (wantedF1 rfl rfl rfl rfl) <| St1.val (x_fld (o' := 1) Try.underlying57 rfl ty3 rfl rfl rfl) ?_
  refine RL.gst (wantedF1 rfl rfl rfl rfl) <| St1.val (x_ld (v := .int .i64 ((o).part)) ty3 rfl rfl (hb_4.cl.field (i := 1) rfl)) ?_
  refine RL.gst (wantedF1 rfl rfl rfl rfl) <| St1.val (x_fld (o' := 2) Try.underlying57 rfl ty3 rfl rfl rfl) ?_
  refine RL.gst (wantedF1 rfl rfl rfl rfl) <| St1.val (x_ld (v := .int .i64 ((o).to)) ty3 rfl rfl (hb_4.cl.field (i := 2) rfl)) ?_
  refine RL.gst (wantedF1 rfl rfl rfl rfl) <| St1.call (vals := [.pointer (some ⟨b_6, 0, none⟩), .int .i64 ((o).part), .int .i64 ((o).to)]) en18 rfl (doneZero _ _ _ _ hb_9) ?_
  rintro _ w_54 ⟨rfl, K_55⟩
  replace hb_4 := hb_4.ext K_55
  replace hb_9 := hb_9.ext K_55
  replace ho_15 := ho_15.ext K_55
  replace K0 := K0.ext K_55
  refine RL.val (x_orF rfl rfl rfl) ?_
  refine RL.nil ?_
  refine Run.condF rfl ?_
  refine Run.skip ?_
  refine Run.seq ?_
  refine Run.drawT [] (m := 25) (by kernel_rfl) rfl ?_
  intro w_56 K_57
  replace hb_4 := hb_4.ext K_57
  replace hb_9 := hb_9.ext K_57
  replace ho_15 := ho_15.ext K_57
  replace K0 := K0.ext K_57
  refine ⟨fun w' => Blk w' b_1 [.int .i64 ((o).op), .int .i64 ((o).part), .int .i64 ((o).to), .slice ((o).keys.a) ((o).keys.len) ((o).keys.cap), .int .i64 ((o).now), .int .i64 ((o).kind), .string ((o).key), .int .i64 ((o).req)] 57 ∧ True, ?_⟩
  refine RT.takeP (v := .pointer (some ⟨b_6, 0, none⟩)) 0 rfl (by kernel_rfl) (.inr ⟨hb_4, trivial⟩) (fun _ => (x_moveP rfl)) ?_
  refine RT.takeP (v := .pointer (some ⟨b_1, 4, none⟩)) 1 rfl (by kernel_rfl) (.inr ⟨hb_4, trivial⟩) (fun _ => (x_fld (o' := 4) Try.underlying57 rfl ty3 rfl rfl rfl)) ?_
  refine RT.take (v := .int .i64 ((o).now)) 2 rfl (by kernel_rfl) ⟨hb_4, trivial⟩ (by rintro _ ⟨hb_4, -⟩; exact (x_ld (v := .int .i64 ((o).now)) ty3 rfl rfl (hb_4.cl.field (i := 4) rfl))) ?_
  refine RT.takeP (v := .pointer (some ⟨b_6, 0, none⟩)) 5 rfl (by kernel_rfl) (.inr ⟨hb_4, trivial⟩) (fun _ => (x_moveP rfl)) ?_
  refine RT.take (v := .agg #[.int .i64 ((o).op), .int .i64 ((o).part), .int .i64 ((o).to), .slice ((o).keys.a) ((o).keys.len) ((o).keys.cap), .int .i64 ((o).now), .int .i64 ((o).kind), .string ((o).key), .int .i64 ((o).req)]) 6 rfl (by kernel_rfl) ⟨hb_4, trivial⟩ (by rintro _ ⟨hb_4, -⟩; exact (x_lds (cs := #[.int .i64 ((o).op), .int .i64 ((o).part), .int .i64 ((o).to), .slice ((o).keys.a) ((o).keys.len) ((o).keys.cap), .int .i64 ((o).now), .int .i64 ((o).kind), .string ((o).key), .int .i64 ((o).req)]) ty57 rfl rfl (hb_4.cl.drop 0 8))) ?_
  refine RT.takeP (v := .pointer (some ⟨b_1, 4, none⟩)) 8 rfl (by kernel_rfl) (.inr ⟨hb_4, trivial⟩) (fun _ => (x_fld (o' := 4) Try.underlying57 rfl ty3 rfl rfl rfl)) ?_
  refine RT.take (v := .int .i64 ((o).now)) 9 rfl (by kernel_rfl) ⟨hb_4, trivial⟩ (by rintro _ ⟨hb_4, -⟩; exact (x_ld (v := .int .i64 ((o).now)) ty3 rfl rfl (hb_4.cl.field (i := 4) rfl))) ?_
  refine RT.takeP (v := .pointer (some ⟨b_6, 0, none⟩)) 13 rfl (by kernel_rfl) (.inr ⟨hb_4, trivial⟩) (fun _ => (x_moveP rfl)) ?_
  refine RT.takeP (v := .pointer (some ⟨b_6, 0, none⟩)) 17 rfl (by kernel_rfl) (.inr ⟨hb_4, trivial⟩) (fun _ => (x_moveP rfl)) ?_
  refine RT.takeP (v := .pointer (some ⟨b_1, 1, none⟩)) 18 rfl (by kernel_rfl) (.inr ⟨hb_4, trivial⟩) (fun _ => (x_fld (o' := 1) Try.underlying57 rfl ty3 rfl rfl rfl)) ?_
  refine RT.take (v := .int .i64 ((o).part)) 19 rfl (by kernel_rfl) ⟨hb_4, trivial⟩ (by rintro _ ⟨hb_4, -⟩; exact (x_ld (v := .int .i64 ((o).part)) ty3 rfl rfl (hb_4.cl.field (i := 1) rfl))) ?_
  refine RT.takeP (v := .pointer (some ⟨b_1, 2, none⟩)) 20 rfl (by kernel_rfl) (.inr ⟨hb_4, trivial⟩) (fun _ => (x_fld (o' := 2) Try.underlying57 rfl ty3 rfl rfl rfl)) ?_
  refine RT.take (v := .int .i64 ((o).to)) 21 rfl (by kernel_rfl) ⟨hb_4, trivial⟩ (by rintro _ ⟨hb_4, -⟩; exact (x_ld (v := .int .i64 ((o).to)) ty3 rfl rfl (hb_4.cl.field (i := 2) rfl))) ?_
  refine RT.st 3 rfl (by kernel_rfl) rfl <| St1.call (vals := [.pointer (some ⟨b_6, 0, none⟩), .int .i64 ((o).now)]) en14 rfl (tickZero _ _ _ hb_9) ?_
  rintro _ w_58 ⟨rfl, K_59⟩
  replace hb_4 := hb_4.ext K_59
  replace hb_9 := hb_9.ext K_59
  replace ho_15 := ho_15.ext K_59
  replace K0 := K0.ext K_59
  refine ⟨.inr ⟨hb_4, trivial⟩, ?_⟩
  refine RT.takeP (v := .int .i64 (0)) 4 rfl (by kernel_rfl) (.inr ⟨hb_4, trivial⟩) (fun _ => (litI (c := 0) (x_lenSl Try.underlying31 rfl) rfl)) ?_
  refine RT.st 7 rfl (by kernel_rfl) rfl <| St1.call (vals := [.agg #[.int .i64 ((o).op), .int .i64 ((o).part), .int .i64 ((o).to), .slice ((o).keys.a) ((o).keys.len) ((o).keys.cap), .int .i64 ((o).now), .int .i64 ((o).kind), .string ((o).key), .int .i64 ((o).req)], .int .i64 (0)]) en20 rfl (msg_ o 0 _) ?_
  rintro _ w_60 ⟨rfl, K_61⟩
  replace hb_4 := hb_4.ext K_61
  replace hb_9 := hb_9.ext K_61
  replace ho_15 := ho_15.ext K_61
  replace K0 := K0.ext K_61
  refine ⟨.inr ⟨hb_4, trivial⟩, ?_⟩
  refine RT.st 10 rfl (by kernel_rfl) rfl <| St1.call (vals := [.pointer (some ⟨b_6, 0, none⟩), .agg #[.int .i64 (((DoC.msg o 0)).kind), .int .i64 (((DoC.msg o 0)).frm), .int .i64 (((DoC.msg o 0)).to), .int .i64 (((DoC.msg o 0)).req), .string (((DoC.msg o 0)).key), .slice (none) (0) (0), .slice (none) (0) (0), .slice (none) (0) (0), .int .i64 (0), .int .i64 (((DoC.msg o 0)).part), .int .i64 (0), .int .i64 (0), .int .i64 (0), .int .i64 (0), .slice (none) (0) (0), .slice (none) (0) (0), .slice (none) (0) (0)], .int .i64 ((o).now)]) en15 rfl (onZero _ _ _ _ hb_9) ?_
  rintro _ w_62 ⟨rfl, K_63⟩
  replace hb_4 := hb_4.ext K_63
  replace hb_9 := hb_9.ext K_63
  replace ho_15 := ho_15.ext K_63
  replace K0 := K0.ext K_63
  refine ⟨.inr ⟨hb_4, trivial⟩, ?_⟩
  refine RT.takeP (v := .int .i64 (0)) 11 rfl (by kernel_rfl) (.inr ⟨hb_4, trivial⟩) (fun _ => (litI (c := 0) (x_lenSl Try.underlying31 rfl) rfl)) ?_
  refine RT.takeP (v := .int .i64 (0)) 12 rfl (by kernel_rfl) (.inr ⟨hb_4, trivial⟩) (fun _ => (litI (c := 0) (x_add rfl rfl (by decide) (by decide)) (by decide))) ?_
  refine RT.st 14 rfl (by kernel_rfl) rfl <| St1.call (vals := [.pointer (some ⟨b_6, 0, none⟩)]) en21 rfl (openZero _  _ hb_9) ?_
  rintro _ w_64 ⟨rfl, K_65⟩
  replace hb_4 := hb_4.ext K_65
  replace hb_9 := hb_9.ext K_65
  replace ho_15 := ho_15.ext K_65
  replace K0 := K0.ext K_65
  refine ⟨.inr ⟨hb_4, trivial⟩, ?_⟩
  refine RT.takeP (v := .int .i64 (0)) 15 rfl (by kernel_rfl) (.inr ⟨hb_4, trivial⟩) (fun _ => (litI (c := 0) (x_lenSl Try.underlying64 rfl) rfl)) ?_
  refine RT.takeP (v := .int .i64 (0)) 16 rfl (by kernel_rfl) (.inr ⟨hb_4, trivial⟩) (fun _ => (litI (c := 0) (x_add rfl rfl (by decide) (by decide)) (by decide))) ?_
  refine RT.st 22 rfl (by kernel_rfl) rfl <| St1.call (vals := [.pointer (some ⟨b_6, 0, none⟩), .int .i64 ((o).part), .int .i64 ((o).to)]) en17 rfl (leftZero _ _ _ _ hb_9) ?_
  rintro _ w_66 ⟨rfl, K_67⟩
  replace hb_4 := hb_4.ext K_67
  replace hb_9 := hb_9.ext K_67
  replace ho_15 := ho_15.ext K_67
  replace K0 := K0.ext K_67
  refine ⟨.inr ⟨hb_4, trivial⟩, ?_⟩
  refine RT.takeP (v := .int .i64 (0)) 23 rfl (by kernel_rfl) (.inr ⟨hb_4, trivial⟩) (fun _ => (litI (c := 0) (x_add rfl rfl (by decide) (by decide)) (by decide))) ?_
  refine RT.takeP (v := .bool (false)) 24 rfl (by kernel_rfl) (.inr ⟨hb_4, trivial⟩) (fun _ => (litF (x_neI rfl rfl) (by decide))) ?_
  refine RT.done (by kernel_rfl) ?_
  refine Run.condF rfl ?_
  refine Run.skip ?_
  refine Run.inBlock ?_
  refine Run.region ?_
  refine RL.val (litI (c := 2) (x_add rfl rfl (by decide) (by decide)) (by decide)) ?_
  refine RL.val (x_moveI rfl) ?_
  refine RL.nil ?_
  refine Run.inLoop ?_
  refine Run.seq ?_
  refine Run.region ?_
  refine RL.val (litF (x_ltI rfl rfl) (by decide)) ?_
  refine RL.nil ?_
  refine Run.seq ?_
  refine Run.condF rfl ?_
  refine Run.exit rfl ?_
  refine Run.seq ?_
  refine Run.region ?_
  refine RL.st rfl <| St1.call (vals := []) en13 rfl (awake_ _) ?_
  rintro _ w_68 ⟨rfl, K_69⟩
  replace hb_4 := hb_4.ext K_69
  replace hb_9 := hb_9.ext K_69
  replace ho_15 := ho_15.ext K_69
  replace K0 := K0.ext K_69
  refine RL.val (x_assignB rfl) ?_
  refine RL.nil ?_
  refine Run.ret1 (v := .bool (true)) Try.func5 rfl rfl ?_
  exact ⟨_, rfl, rfl, K0⟩

end Go.Proofs.Ythhhkjmlnjbnjaa
