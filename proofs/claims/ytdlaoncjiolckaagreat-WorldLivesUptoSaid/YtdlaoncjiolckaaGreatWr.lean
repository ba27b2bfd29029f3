/-
  Layer 22: how messages that come in are read.
-/
import Derived.Test.YtdlaoncjiolckaaGreatRows
import Derived.Test.YtdlaoncjiolckaaGreatWh
import Derived.Test.YtdlaoncjiolckaaGreatFrame
namespace Go.Proofs.YtdlaoncjiolckaaGreat
attribute [local irreducible] St1 RL RA RT RT1 Run
open Wa
instance : Enc CtxC := Enc.struct (fun t => [.slice t.marks.a t.marks.len t.marks.cap, .slice t.cloud.a t.cloud.len t.cloud.cap]) 2 (fun _ => rfl) (fun _ v hv => by simp at hv; rcases hv with rfl | rfl <;> rfl) (by decide)
instance : Enc CartC := Enc.struct (fun t => [.slice t.entries.a t.entries.len t.entries.cap, .slice t.ctx.marks.a t.ctx.marks.len t.ctx.marks.cap, .slice t.ctx.cloud.a t.ctx.cloud.len t.ctx.cloud.cap]) 3 (fun _ => rfl) (fun _ v hv => by simp at hv; rcases hv with rfl | rfl | rfl <;> rfl) (by decide)
instance : Enc RingC := Enc.struct (fun t => [.int .i64 t.parts, .int .i64 t.copies, .int .i64 t.spots, .slice t.members.a t.members.len t.members.cap]) 4 (fun _ => rfl) (fun _ v hv => by simp at hv; rcases hv with rfl | rfl | rfl | rfl <;> rfl) (by decide)
abbrev DotCQ (W : World) (x : DotC) (m : Nat) : Prop := True ∧ True ∧ True
theorem reads_DotC : Reads Tryz.prog 116 DotC DotCQ := by
  intro H enc W fuel cs x h
  obtain ⟨xs, n, rfl, rfl, hlen, hxs, hf⟩ := DataW.trod_struct Tryz.underlying116 h
  obtain ⟨y0, y1, y2, rfl⟩ : ∃ y0 y1 y2, xs = [y0, y1, y2] := by
    match xs, hxs with
    | [y0, y1, y2], _ => exact ⟨y0, y1, y2, rfl⟩
  obtain ⟨v0, e0, q0⟩ := (reads_int Tryz.underlying3) H enc W n _ _ (hf 0 _ rfl)
  replace e0 : (cs.drop 0).take (Tryz.prog.cellsOf 3) = cellsOf v0 := e0
  rw [show Tryz.prog.cellsOf 3 = 1 by kernel_rfl] at e0
  have c0 : cs.drop 0 = (cs.drop 0).take 1 ++ cs.drop 1 := chunk cs 0 1
  obtain ⟨v1, e1, q1⟩ := (reads_int Tryz.underlying3) H enc W n _ _ (hf 1 _ rfl)
  replace e1 : (cs.drop 1).take (Tryz.prog.cellsOf 3) = cellsOf v1 := e1
  rw [show Tryz.prog.cellsOf 3 = 1 by kernel_rfl] at e1
  have c1 : cs.drop 1 = (cs.drop 1).take 1 ++ cs.drop 2 := chunk cs 1 1
  obtain ⟨v2, e2, q2⟩ := (reads_int Tryz.underlying3) H enc W n _ _ (hf 2 _ rfl)
  replace e2 : (cs.drop 2).take (Tryz.prog.cellsOf 3) = cellsOf v2 := e2
  rw [show Tryz.prog.cellsOf 3 = 1 by kernel_rfl] at e2
  have c2 : cs.drop 2 = (cs.drop 2).take 1 ++ cs.drop 3 := chunk cs 2 1
  have hl : cs.length = 3 := hlen.trans (by kernel_rfl)
  have t : cs = cs.drop 0 := rfl
  have cN : cs.drop 3 = [] := List.drop_eq_nil_of_le (by omega)
  rw [e0] at c0
  rw [e1] at c1
  rw [e2] at c2
  rw [c0, c1, c2, cN] at t
  refine ⟨⟨v0, v1, v2⟩, t, trivial, trivial, trivial⟩
  all_goals (simp only [List.map_cons, List.map_nil, Rows.uptoBulk, Rows.uptoBulkAll]; omega)
abbrev MarkCQ (W : World) (x : MarkC) (m : Nat) : Prop := True ∧ True ∧ True
theorem reads_MarkC : Reads Tryz.prog 120 MarkC MarkCQ := by
  intro H enc W fuel cs x h
  obtain ⟨xs, n, rfl, rfl, hlen, hxs, hf⟩ := DataW.trod_struct Tryz.underlying120 h
  obtain ⟨y0, y1, y2, rfl⟩ : ∃ y0 y1 y2, xs = [y0, y1, y2] := by
    match xs, hxs with
    | [y0, y1, y2], _ => exact ⟨y0, y1, y2, rfl⟩
  obtain ⟨v0, e0, q0⟩ := (reads_int Tryz.underlying3) H enc W n _ _ (hf 0 _ rfl)
  replace e0 : (cs.drop 0).take (Tryz.prog.cellsOf 3) = cellsOf v0 := e0
  rw [show Tryz.prog.cellsOf 3 = 1 by kernel_rfl] at e0
  have c0 : cs.drop 0 = (cs.drop 0).take 1 ++ cs.drop 1 := chunk cs 0 1
  obtain ⟨v1, e1, q1⟩ := (reads_int Tryz.underlying3) H enc W n _ _ (hf 1 _ rfl)
  replace e1 : (cs.drop 1).take (Tryz.prog.cellsOf 3) = cellsOf v1 := e1
  rw [show Tryz.prog.cellsOf 3 = 1 by kernel_rfl] at e1
  have c1 : cs.drop 1 = (cs.drop 1).take 1 ++ cs.drop 2 := chunk cs 1 1
  obtain ⟨v2, e2, q2⟩ := (reads_int Tryz.underlying3) H enc W n _ _ (hf 2 _ rfl)
  replace e2 : (cs.drop 2).take (Tryz.prog.cellsOf 3) = cellsOf v2 := e2
  rw [show Tryz.prog.cellsOf 3 = 1 by kernel_rfl] at e2
  have c2 : cs.drop 2 = (cs.drop 2).take 1 ++ cs.drop 3 := chunk cs 2 1
  have hl : cs.length = 3 := hlen.trans (by kernel_rfl)
  have t : cs = cs.drop 0 := rfl
  have cN : cs.drop 3 = [] := List.drop_eq_nil_of_le (by omega)
  rw [e0] at c0
  rw [e1] at c1
  rw [e2] at c2
  rw [c0, c1, c2, cN] at t
  refine ⟨⟨v0, v1, v2⟩, t, trivial, trivial, trivial⟩
  all_goals (simp only [List.map_cons, List.map_nil, Rows.uptoBulk, Rows.uptoBulkAll]; omega)
abbrev MemberCQ (W : World) (x : MemberC) (m : Nat) : Prop := True ∧ True ∧ True ∧ True
theorem reads_MemberC : Reads Tryz.prog 85 MemberC MemberCQ := by
  intro H enc W fuel cs x h
  obtain ⟨xs, n, rfl, rfl, hlen, hxs, hf⟩ := DataW.trod_struct Tryz.underlying85 h
  obtain ⟨y0, y1, y2, y3, rfl⟩ : ∃ y0 y1 y2 y3, xs = [y0, y1, y2, y3] := by
    match xs, hxs with
    | [y0, y1, y2, y3], _ => exact ⟨y0, y1, y2, y3, rfl⟩
  obtain ⟨v0, e0, q0⟩ := (reads_int Tryz.underlying3) H enc W n _ _ (hf 0 _ rfl)
  replace e0 : (cs.drop 0).take (Tryz.prog.cellsOf 3) = cellsOf v0 := e0
  rw [show Tryz.prog.cellsOf 3 = 1 by kernel_rfl] at e0
  have c0 : cs.drop 0 = (cs.drop 0).take 1 ++ cs.drop 1 := chunk cs 0 1
  obtain ⟨v1, e1, q1⟩ := (reads_int Tryz.underlying3) H enc W n _ _ (hf 1 _ rfl)
  replace e1 : (cs.drop 1).take (Tryz.prog.cellsOf 3) = cellsOf v1 := e1
  rw [show Tryz.prog.cellsOf 3 = 1 by kernel_rfl] at e1
  have c1 : cs.drop 1 = (cs.drop 1).take 1 ++ cs.drop 2 := chunk cs 1 1
  obtain ⟨v2, e2, q2⟩ := (reads_int Tryz.underlying3) H enc W n _ _ (hf 2 _ rfl)
  replace e2 : (cs.drop 2).take (Tryz.prog.cellsOf 3) = cellsOf v2 := e2
  rw [show Tryz.prog.cellsOf 3 = 1 by kernel_rfl] at e2
  have c2 : cs.drop 2 = (cs.drop 2).take 1 ++ cs.drop 3 := chunk cs 2 1
  obtain ⟨v3, e3, q3⟩ := (reads_int Tryz.underlying3) H enc W n _ _ (hf 3 _ rfl)
  replace e3 : (cs.drop 3).take (Tryz.prog.cellsOf 3) = cellsOf v3 := e3
  rw [show Tryz.prog.cellsOf 3 = 1 by kernel_rfl] at e3
  have c3 : cs.drop 3 = (cs.drop 3).take 1 ++ cs.drop 4 := chunk cs 3 1
  have hl : cs.length = 4 := hlen.trans (by kernel_rfl)
  have t : cs = cs.drop 0 := rfl
  have cN : cs.drop 4 = [] := List.drop_eq_nil_of_le (by omega)
  rw [e0] at c0
  rw [e1] at c1
  rw [e2] at c2
  rw [e3] at c3
  rw [c0, c1, c2, c3, cN] at t
  refine ⟨⟨v0, v1, v2, v3⟩, t, trivial, trivial, trivial, trivial⟩
  all_goals (simp only [List.map_cons, List.map_nil, Rows.uptoBulk, Rows.uptoBulkAll]; omega)
abbrev PeerCQ (W : World) (x : PeerC) (m : Nat) : Prop := True ∧ True ∧ True
theorem reads_PeerC : Reads Tryz.prog 87 PeerC PeerCQ := by
  intro H enc W fuel cs x h
  obtain ⟨xs, n, rfl, rfl, hlen, hxs, hf⟩ := DataW.trod_struct Tryz.underlying87 h
  obtain ⟨y0, y1, y2, rfl⟩ : ∃ y0 y1 y2, xs = [y0, y1, y2] := by
    match xs, hxs with
    | [y0, y1, y2], _ => exact ⟨y0, y1, y2, rfl⟩
  obtain ⟨v0, e0, q0⟩ := (reads_int Tryz.underlying3) H enc W n _ _ (hf 0 _ rfl)
  replace e0 : (cs.drop 0).take (Tryz.prog.cellsOf 3) = cellsOf v0 := e0
  rw [show Tryz.prog.cellsOf 3 = 1 by kernel_rfl] at e0
  have c0 : cs.drop 0 = (cs.drop 0).take 1 ++ cs.drop 1 := chunk cs 0 1
  obtain ⟨v1, e1, q1⟩ := (reads_int Tryz.underlying3) H enc W n _ _ (hf 1 _ rfl)
  replace e1 : (cs.drop 1).take (Tryz.prog.cellsOf 3) = cellsOf v1 := e1
  rw [show Tryz.prog.cellsOf 3 = 1 by kernel_rfl] at e1
  have c1 : cs.drop 1 = (cs.drop 1).take 1 ++ cs.drop 2 := chunk cs 1 1
  obtain ⟨v2, e2, q2⟩ := (reads_int Tryz.underlying3) H enc W n _ _ (hf 2 _ rfl)
  replace e2 : (cs.drop 2).take (Tryz.prog.cellsOf 3) = cellsOf v2 := e2
  rw [show Tryz.prog.cellsOf 3 = 1 by kernel_rfl] at e2
  have c2 : cs.drop 2 = (cs.drop 2).take 1 ++ cs.drop 3 := chunk cs 2 1
  have hl : cs.length = 3 := hlen.trans (by kernel_rfl)
  have t : cs = cs.drop 0 := rfl
  have cN : cs.drop 3 = [] := List.drop_eq_nil_of_le (by omega)
  rw [e0] at c0
  rw [e1] at c1
  rw [e2] at c2
  rw [c0, c1, c2, cN] at t
  refine ⟨⟨v0, v1, v2⟩, t, trivial, trivial, trivial⟩
  all_goals (simp only [List.map_cons, List.map_nil, Rows.uptoBulk, Rows.uptoBulkAll]; omega)
abbrev SumCQ (W : World) (x : SumC) (m : Nat) : Prop := True ∧ True ∧ True
theorem reads_SumC : Reads Tryz.prog 90 SumC SumCQ := by
  intro H enc W fuel cs x h
  obtain ⟨xs, n, rfl, rfl, hlen, hxs, hf⟩ := DataW.trod_struct Tryz.underlying90 h
  obtain ⟨y0, y1, y2, rfl⟩ : ∃ y0 y1 y2, xs = [y0, y1, y2] := by
    match xs, hxs with
    | [y0, y1, y2], _ => exact ⟨y0, y1, y2, rfl⟩
  obtain ⟨v0, e0, q0⟩ := (reads_int Tryz.underlying3) H enc W n _ _ (hf 0 _ rfl)
  replace e0 : (cs.drop 0).take (Tryz.prog.cellsOf 3) = cellsOf v0 := e0
  rw [show Tryz.prog.cellsOf 3 = 1 by kernel_rfl] at e0
  have c0 : cs.drop 0 = (cs.drop 0).take 1 ++ cs.drop 1 := chunk cs 0 1
  obtain ⟨v1, e1, q1⟩ := (reads_string Tryz.underlying9) H enc W n _ _ (hf 1 _ rfl)
  replace e1 : (cs.drop 1).take (Tryz.prog.cellsOf 9) = cellsOf v1 := e1
  rw [show Tryz.prog.cellsOf 9 = 1 by kernel_rfl] at e1
  have c1 : cs.drop 1 = (cs.drop 1).take 1 ++ cs.drop 2 := chunk cs 1 1
  obtain ⟨v2, e2, q2⟩ := (reads_u64 Tryz.underlying88) H enc W n _ _ (hf 2 _ rfl)
  replace e2 : (cs.drop 2).take (Tryz.prog.cellsOf 88) = cellsOf v2 := e2
  rw [show Tryz.prog.cellsOf 88 = 1 by kernel_rfl] at e2
  have c2 : cs.drop 2 = (cs.drop 2).take 1 ++ cs.drop 3 := chunk cs 2 1
  have hl : cs.length = 3 := hlen.trans (by kernel_rfl)
  have t : cs = cs.drop 0 := rfl
  have cN : cs.drop 3 = [] := List.drop_eq_nil_of_le (by omega)
  rw [e0] at c0
  rw [e1] at c1
  rw [e2] at c2
  rw [c0, c1, c2, cN] at t
  refine ⟨⟨v0, v1, v2.v⟩, t, trivial, trivial, trivial⟩
  all_goals (simp only [List.map_cons, List.map_nil, Rows.uptoBulk, Rows.uptoBulkAll]; omega)
abbrev EntryCQ (W : World) (x : EntryC) (m : Nat) : Prop := True ∧ True ∧ True ∧ True
theorem reads_EntryC : Reads Tryz.prog 118 EntryC EntryCQ := by
  intro H enc W fuel cs x h
  obtain ⟨xs, n, rfl, rfl, hlen, hxs, hf⟩ := DataW.trod_struct Tryz.underlying118 h
  obtain ⟨y0, y1, y2, y3, rfl⟩ : ∃ y0 y1 y2 y3, xs = [y0, y1, y2, y3] := by
    match xs, hxs with
    | [y0, y1, y2, y3], _ => exact ⟨y0, y1, y2, y3, rfl⟩
  obtain ⟨v0, e0, q0⟩ := (reads_string Tryz.underlying9) H enc W n _ _ (hf 0 _ rfl)
  replace e0 : (cs.drop 0).take (Tryz.prog.cellsOf 9) = cellsOf v0 := e0
  rw [show Tryz.prog.cellsOf 9 = 1 by kernel_rfl] at e0
  have c0 : cs.drop 0 = (cs.drop 0).take 1 ++ cs.drop 1 := chunk cs 0 1
  obtain ⟨v1, e1, q1⟩ := (reads_DotC) H enc W n _ _ (hf 1 _ rfl)
  replace e1 : (cs.drop 1).take (Tryz.prog.cellsOf 116) = cellsOf v1 := e1
  rw [show Tryz.prog.cellsOf 116 = 3 by kernel_rfl] at e1
  have c1 : cs.drop 1 = (cs.drop 1).take 3 ++ cs.drop 4 := chunk cs 1 3
  obtain ⟨v2, e2, q2⟩ := (reads_int Tryz.underlying3) H enc W n _ _ (hf 2 _ rfl)
  replace e2 : (cs.drop 4).take (Tryz.prog.cellsOf 3) = cellsOf v2 := e2
  rw [show Tryz.prog.cellsOf 3 = 1 by kernel_rfl] at e2
  have c2 : cs.drop 4 = (cs.drop 4).take 1 ++ cs.drop 5 := chunk cs 4 1
  obtain ⟨v3, e3, q3⟩ := (reads_u64 Tryz.underlying88) H enc W n _ _ (hf 3 _ rfl)
  replace e3 : (cs.drop 5).take (Tryz.prog.cellsOf 88) = cellsOf v3 := e3
  rw [show Tryz.prog.cellsOf 88 = 1 by kernel_rfl] at e3
  have c3 : cs.drop 5 = (cs.drop 5).take 1 ++ cs.drop 6 := chunk cs 5 1
  have hl : cs.length = 6 := hlen.trans (by kernel_rfl)
  have t : cs = cs.drop 0 := rfl
  have cN : cs.drop 6 = [] := List.drop_eq_nil_of_le (by omega)
  rw [e0] at c0
  rw [e1] at c1
  rw [e2] at c2
  rw [e3] at c3
  rw [c0, c1, c2, c3, cN] at t
  refine ⟨⟨v0, v1, v2, v3.v⟩, t, trivial, trivial, trivial, trivial⟩
  all_goals (simp only [List.map_cons, List.map_nil, Rows.uptoBulk, Rows.uptoBulkAll]; omega)
abbrev CtxCQ (W : World) (x : CtxC) (m : Nat) : Prop := (∃ k, k ≤ m ∧ (SlicesQ MarkCQ) W x.marks k) ∧ (∃ k, k ≤ m ∧ (SlicesQ DotCQ) W x.cloud k)
theorem reads_CtxC : Reads Tryz.prog 48 CtxC CtxCQ := by
  intro H enc W fuel cs x h
  obtain ⟨xs, n, rfl, rfl, hlen, hxs, hf⟩ := DataW.trod_struct Tryz.underlying48 h
  obtain ⟨y0, y1, rfl⟩ : ∃ y0 y1, xs = [y0, y1] := by
    match xs, hxs with
    | [y0, y1], _ => exact ⟨y0, y1, rfl⟩
  obtain ⟨v0, e0, q0⟩ := (reads_slice (α := MarkC) Tryz.underlying45 (by kernel_rfl) reads_MarkC) H enc W n _ _ (hf 0 _ rfl)
  replace e0 : (cs.drop 0).take (Tryz.prog.cellsOf 45) = cellsOf v0 := e0
  rw [show Tryz.prog.cellsOf 45 = 1 by kernel_rfl] at e0
  have c0 : cs.drop 0 = (cs.drop 0).take 1 ++ cs.drop 1 := chunk cs 0 1
  obtain ⟨v1, e1, q1⟩ := (reads_slice (α := DotC) Tryz.underlying46 (by kernel_rfl) reads_DotC) H enc W n _ _ (hf 1 _ rfl)
  replace e1 : (cs.drop 1).take (Tryz.prog.cellsOf 46) = cellsOf v1 := e1
  rw [show Tryz.prog.cellsOf 46 = 1 by kernel_rfl] at e1
  have c1 : cs.drop 1 = (cs.drop 1).take 1 ++ cs.drop 2 := chunk cs 1 1
  have hl : cs.length = 2 := hlen.trans (by kernel_rfl)
  have t : cs = cs.drop 0 := rfl
  have cN : cs.drop 2 = [] := List.drop_eq_nil_of_le (by omega)
  rw [e0] at c0
  rw [e1] at c1
  rw [c0, c1, cN] at t
  refine ⟨⟨v0, v1⟩, t, ⟨_, ?_, q0⟩, ⟨_, ?_, q1⟩⟩
  all_goals (simp only [List.map_cons, List.map_nil, Rows.uptoBulk, Rows.uptoBulkAll]; omega)
abbrev CartCQ (W : World) (x : CartC) (m : Nat) : Prop := (∃ k, k ≤ m ∧ (SlicesQ EntryCQ) W x.entries k) ∧ (∃ k, k ≤ m ∧ CtxCQ W x.ctx k)
theorem reads_CartC : Reads Tryz.prog 50 CartC CartCQ := by
  intro H enc W fuel cs x h
  obtain ⟨xs, n, rfl, rfl, hlen, hxs, hf⟩ := DataW.trod_struct Tryz.underlying50 h
  obtain ⟨y0, y1, rfl⟩ : ∃ y0 y1, xs = [y0, y1] := by
    match xs, hxs with
    | [y0, y1], _ => exact ⟨y0, y1, rfl⟩
  obtain ⟨v0, e0, q0⟩ := (reads_slice (α := EntryC) Tryz.underlying44 (by kernel_rfl) reads_EntryC) H enc W n _ _ (hf 0 _ rfl)
  replace e0 : (cs.drop 0).take (Tryz.prog.cellsOf 44) = cellsOf v0 := e0
  rw [show Tryz.prog.cellsOf 44 = 1 by kernel_rfl] at e0
  have c0 : cs.drop 0 = (cs.drop 0).take 1 ++ cs.drop 1 := chunk cs 0 1
  obtain ⟨v1, e1, q1⟩ := (reads_CtxC) H enc W n _ _ (hf 1 _ rfl)
  replace e1 : (cs.drop 1).take (Tryz.prog.cellsOf 48) = cellsOf v1 := e1
  rw [show Tryz.prog.cellsOf 48 = 2 by kernel_rfl] at e1
  have c1 : cs.drop 1 = (cs.drop 1).take 2 ++ cs.drop 3 := chunk cs 1 2
  have hl : cs.length = 3 := hlen.trans (by kernel_rfl)
  have t : cs = cs.drop 0 := rfl
  have cN : cs.drop 3 = [] := List.drop_eq_nil_of_le (by omega)
  rw [e0] at c0
  rw [e1] at c1
  rw [c0, c1, cN] at t
  refine ⟨⟨v0, v1⟩, t, ⟨_, ?_, q0⟩, ⟨_, ?_, q1⟩⟩
  all_goals (simp only [List.map_cons, List.map_nil, Rows.uptoBulk, Rows.uptoBulkAll]; omega)
abbrev RingCQ (W : World) (x : RingC) (m : Nat) : Prop := True ∧ True ∧ True ∧ (∃ k, k ≤ m ∧ (SlicesQ MemberCQ) W x.members k)
theorem reads_RingC : Reads Tryz.prog 53 RingC RingCQ := by
  intro H enc W fuel cs x h
  obtain ⟨xs, n, rfl, rfl, hlen, hxs, hf⟩ := DataW.trod_struct Tryz.underlying53 h
  obtain ⟨y0, y1, y2, y3, rfl⟩ : ∃ y0 y1 y2 y3, xs = [y0, y1, y2, y3] := by
    match xs, hxs with
    | [y0, y1, y2, y3], _ => exact ⟨y0, y1, y2, y3, rfl⟩
  obtain ⟨v0, e0, q0⟩ := (reads_int Tryz.underlying3) H enc W n _ _ (hf 0 _ rfl)
  replace e0 : (cs.drop 0).take (Tryz.prog.cellsOf 3) = cellsOf v0 := e0
  rw [show Tryz.prog.cellsOf 3 = 1 by kernel_rfl] at e0
  have c0 : cs.drop 0 = (cs.drop 0).take 1 ++ cs.drop 1 := chunk cs 0 1
  obtain ⟨v1, e1, q1⟩ := (reads_int Tryz.underlying3) H enc W n _ _ (hf 1 _ rfl)
  replace e1 : (cs.drop 1).take (Tryz.prog.cellsOf 3) = cellsOf v1 := e1
  rw [show Tryz.prog.cellsOf 3 = 1 by kernel_rfl] at e1
  have c1 : cs.drop 1 = (cs.drop 1).take 1 ++ cs.drop 2 := chunk cs 1 1
  obtain ⟨v2, e2, q2⟩ := (reads_int Tryz.underlying3) H enc W n _ _ (hf 2 _ rfl)
  replace e2 : (cs.drop 2).take (Tryz.prog.cellsOf 3) = cellsOf v2 := e2
  rw [show Tryz.prog.cellsOf 3 = 1 by kernel_rfl] at e2
  have c2 : cs.drop 2 = (cs.drop 2).take 1 ++ cs.drop 3 := chunk cs 2 1
  obtain ⟨v3, e3, q3⟩ := (reads_slice (α := MemberC) Tryz.underlying51 (by kernel_rfl) reads_MemberC) H enc W n _ _ (hf 3 _ rfl)
  replace e3 : (cs.drop 3).take (Tryz.prog.cellsOf 51) = cellsOf v3 := e3
  rw [show Tryz.prog.cellsOf 51 = 1 by kernel_rfl] at e3
  have c3 : cs.drop 3 = (cs.drop 3).take 1 ++ cs.drop 4 := chunk cs 3 1
  have hl : cs.length = 4 := hlen.trans (by kernel_rfl)
  have t : cs = cs.drop 0 := rfl
  have cN : cs.drop 4 = [] := List.drop_eq_nil_of_le (by omega)
  rw [e0] at c0
  rw [e1] at c1
  rw [e2] at c2
  rw [e3] at c3
  rw [c0, c1, c2, c3, cN] at t
  refine ⟨⟨v0, v1, v2, v3⟩, t, trivial, trivial, trivial, ⟨_, ?_, q3⟩⟩
  all_goals (simp only [List.map_cons, List.map_nil, Rows.uptoBulk, Rows.uptoBulkAll]; omega)
abbrev MsgCQ (W : World) (x : MsgC) (m : Nat) : Prop := True ∧ True ∧ True ∧ True ∧ True ∧ (∃ k, k ≤ m ∧ CartCQ W x.cart k) ∧ True ∧ True ∧ True ∧ (∃ k, k ≤ m ∧ RingCQ W x.ring k) ∧ (∃ k, k ≤ m ∧ (SlicesQ PeerCQ) W x.peers k) ∧ (∃ k, k ≤ m ∧ (SlicesQ SumCQ) W x.sums k)
theorem reads_MsgC : Reads Tryz.prog 57 MsgC MsgCQ := by
  intro H enc W fuel cs x h
  obtain ⟨xs, n, rfl, rfl, hlen, hxs, hf⟩ := DataW.trod_struct Tryz.underlying57 h
  obtain ⟨y0, y1, y2, y3, y4, y5, y6, y7, y8, y9, y10, y11, rfl⟩ : ∃ y0 y1 y2 y3 y4 y5 y6 y7 y8 y9 y10 y11, xs = [y0, y1, y2, y3, y4, y5, y6, y7, y8, y9, y10, y11] := by
    match xs, hxs with
    | [y0, y1, y2, y3, y4, y5, y6, y7, y8, y9, y10, y11], _ => exact ⟨y0, y1, y2, y3, y4, y5, y6, y7, y8, y9, y10, y11, rfl⟩
  obtain ⟨v0, e0, q0⟩ := (reads_int Tryz.underlying3) H enc W n _ _ (hf 0 _ rfl)
  replace e0 : (cs.drop 0).take (Tryz.prog.cellsOf 3) = cellsOf v0 := e0
  rw [show Tryz.prog.cellsOf 3 = 1 by kernel_rfl] at e0
  have c0 : cs.drop 0 = (cs.drop 0).take 1 ++ cs.drop 1 := chunk cs 0 1
  obtain ⟨v1, e1, q1⟩ := (reads_int Tryz.underlying3) H enc W n _ _ (hf 1 _ rfl)
  replace e1 : (cs.drop 1).take (Tryz.prog.cellsOf 3) = cellsOf v1 := e1
  rw [show Tryz.prog.cellsOf 3 = 1 by kernel_rfl] at e1
  have c1 : cs.drop 1 = (cs.drop 1).take 1 ++ cs.drop 2 := chunk cs 1 1
  obtain ⟨v2, e2, q2⟩ := (reads_int Tryz.underlying3) H enc W n _ _ (hf 2 _ rfl)
  replace e2 : (cs.drop 2).take (Tryz.prog.cellsOf 3) = cellsOf v2 := e2
  rw [show Tryz.prog.cellsOf 3 = 1 by kernel_rfl] at e2
  have c2 : cs.drop 2 = (cs.drop 2).take 1 ++ cs.drop 3 := chunk cs 2 1
  obtain ⟨v3, e3, q3⟩ := (reads_int Tryz.underlying3) H enc W n _ _ (hf 3 _ rfl)
  replace e3 : (cs.drop 3).take (Tryz.prog.cellsOf 3) = cellsOf v3 := e3
  rw [show Tryz.prog.cellsOf 3 = 1 by kernel_rfl] at e3
  have c3 : cs.drop 3 = (cs.drop 3).take 1 ++ cs.drop 4 := chunk cs 3 1
  obtain ⟨v4, e4, q4⟩ := (reads_string Tryz.underlying9) H enc W n _ _ (hf 4 _ rfl)
  replace e4 : (cs.drop 4).take (Tryz.prog.cellsOf 9) = cellsOf v4 := e4
  rw [show Tryz.prog.cellsOf 9 = 1 by kernel_rfl] at e4
  have c4 : cs.drop 4 = (cs.drop 4).take 1 ++ cs.drop 5 := chunk cs 4 1
  obtain ⟨v5, e5, q5⟩ := (reads_CartC) H enc W n _ _ (hf 5 _ rfl)
  replace e5 : (cs.drop 5).take (Tryz.prog.cellsOf 50) = cellsOf v5 := e5
  rw [show Tryz.prog.cellsOf 50 = 3 by kernel_rfl] at e5
  have c5 : cs.drop 5 = (cs.drop 5).take 3 ++ cs.drop 8 := chunk cs 5 3
  obtain ⟨v6, e6, q6⟩ := (reads_int Tryz.underlying3) H enc W n _ _ (hf 6 _ rfl)
  replace e6 : (cs.drop 8).take (Tryz.prog.cellsOf 3) = cellsOf v6 := e6
  rw [show Tryz.prog.cellsOf 3 = 1 by kernel_rfl] at e6
  have c6 : cs.drop 8 = (cs.drop 8).take 1 ++ cs.drop 9 := chunk cs 8 1
  obtain ⟨v7, e7, q7⟩ := (reads_int Tryz.underlying3) H enc W n _ _ (hf 7 _ rfl)
  replace e7 : (cs.drop 9).take (Tryz.prog.cellsOf 3) = cellsOf v7 := e7
  rw [show Tryz.prog.cellsOf 3 = 1 by kernel_rfl] at e7
  have c7 : cs.drop 9 = (cs.drop 9).take 1 ++ cs.drop 10 := chunk cs 9 1
  obtain ⟨v8, e8, q8⟩ := (reads_int Tryz.underlying3) H enc W n _ _ (hf 8 _ rfl)
  replace e8 : (cs.drop 10).take (Tryz.prog.cellsOf 3) = cellsOf v8 := e8
  rw [show Tryz.prog.cellsOf 3 = 1 by kernel_rfl] at e8
  have c8 : cs.drop 10 = (cs.drop 10).take 1 ++ cs.drop 11 := chunk cs 10 1
  obtain ⟨v9, e9, q9⟩ := (reads_RingC) H enc W n _ _ (hf 9 _ rfl)
  replace e9 : (cs.drop 11).take (Tryz.prog.cellsOf 53) = cellsOf v9 := e9
  rw [show Tryz.prog.cellsOf 53 = 4 by kernel_rfl] at e9
  have c9 : cs.drop 11 = (cs.drop 11).take 4 ++ cs.drop 15 := chunk cs 11 4
  obtain ⟨v10, e10, q10⟩ := (reads_slice (α := PeerC) Tryz.underlying54 (by kernel_rfl) reads_PeerC) H enc W n _ _ (hf 10 _ rfl)
  replace e10 : (cs.drop 15).take (Tryz.prog.cellsOf 54) = cellsOf v10 := e10
  rw [show Tryz.prog.cellsOf 54 = 1 by kernel_rfl] at e10
  have c10 : cs.drop 15 = (cs.drop 15).take 1 ++ cs.drop 16 := chunk cs 15 1
  obtain ⟨v11, e11, q11⟩ := (reads_slice (α := SumC) Tryz.underlying55 (by kernel_rfl) reads_SumC) H enc W n _ _ (hf 11 _ rfl)
  replace e11 : (cs.drop 16).take (Tryz.prog.cellsOf 55) = cellsOf v11 := e11
  rw [show Tryz.prog.cellsOf 55 = 1 by kernel_rfl] at e11
  have c11 : cs.drop 16 = (cs.drop 16).take 1 ++ cs.drop 17 := chunk cs 16 1
  have hl : cs.length = 17 := hlen.trans (by kernel_rfl)
  have t : cs = cs.drop 0 := rfl
  have cN : cs.drop 17 = [] := List.drop_eq_nil_of_le (by omega)
  rw [e0] at c0
  rw [e1] at c1
  rw [e2] at c2
  rw [e3] at c3
  rw [e4] at c4
  rw [e5] at c5
  rw [e6] at c6
  rw [e7] at c7
  rw [e8] at c8
  rw [e9] at c9
  rw [e10] at c10
  rw [e11] at c11
  rw [c0, c1, c2, c3, c4, c5, c6, c7, c8, c9, c10, c11, cN] at t
  refine ⟨⟨v0, v1, v2, v3, v4, v5, v6, v7, v8, v9, v10, v11⟩, t, trivial, trivial, trivial, trivial, trivial, ⟨_, ?_, q5⟩, trivial, trivial, trivial, ⟨_, ?_, q9⟩, ⟨_, ?_, q10⟩, ⟨_, ?_, q11⟩⟩
  all_goals (simp only [List.map_cons, List.map_nil, Rows.uptoBulk, Rows.uptoBulkAll]; omega)

theorem msg_of {W : World} {m : MsgC} {k : Nat} (h : MsgCQ W m k) (hk : k ≤ 1048576) : ∃ x : Mg, m = x.c ∧ SixR W x.s x.v ∧ VOk x.v ∧ ∀ q, rdS x.s x.v q → q < W.heap.size := by
  obtain ⟨-, -, -, -, -, ⟨k5, h5, ⟨k50, h50, l1, a1, b1, c1, d1, f1⟩, k51, h51, ⟨k52, h52, l2, a2, b2, c2, d2, f2⟩, ⟨k53, h53, l3, a3, b3, c3, d3, f3⟩⟩, -, -, -, ⟨k9, h9, -, -, -, k90, h90, l4, a4, b4, c4, d4, f4⟩, ⟨k10, h10, l5, a5, b5, c5, d5, f5⟩, k11, h11, l6, a6, b6, c6, d6, f6⟩ := h
  obtain ⟨kind, frm, to, req, key, ⟨⟨x1, y1, z1⟩, ⟨⟨x2, y2, z2⟩, ⟨x3, y3, z3⟩⟩⟩, owner, part, n, ⟨parts, copies, spots, ⟨x4, y4, z4⟩⟩, ⟨x5, y5, z5⟩, ⟨x6, y6, z6⟩⟩ := m
  simp only at a1 b1 f1 a2 b2 f2 a3 b3 f3 a4 b4 f4 a5 b5 f5 a6 b6 f6
  subst a1 a2 a3 a4 a5 a6
  refine ⟨⟨⟨kind, frm, to, req, key, owner, part, n, parts, copies, spots, l1, l2, l3, l4, l5, l6⟩, ⟨x1, z1, x2, z2, x3, z3, x4, z4, x5, z5, x6, z6⟩⟩, rfl, ⟨b1, b2, b3, b4, b5, b6⟩, ⟨by show l1.length ≤ _; omega, by show l2.length ≤ _; omega, by show l3.length ≤ _; omega, by show l4.length ≤ _; omega, by show l5.length ≤ _; omega, by show l6.length ≤ _; omega⟩, ?_⟩
  rintro q (⟨hn, x, hx, rfl⟩ | ⟨hn, x, hx, rfl⟩ | ⟨hn, x, hx, rfl⟩ | ⟨hn, x, hx, rfl⟩ | ⟨hn, x, hx, rfl⟩ | ⟨hn, x, hx, rfl⟩)
  · exact (f1 x hx).resolve_right hn
  · exact (f2 x hx).resolve_right hn
  · exact (f3 x hx).resolve_right hn
  · exact (f4 x hx).resolve_right hn
  · exact (f5 x hx).resolve_right hn
  · exact (f6 x hx).resolve_right hn
theorem msgs_of {W : World} {m : Nat} (hm : m ≤ 1048576) : ∀ (xs : List MsgC), (∀ o ∈ xs, ∃ k, k + 1 ≤ m ∧ MsgCQ W o k) → ∃ ms : List Mg, xs = ms.map Mg.c ∧ ∀ x ∈ ms, SixR W x.s x.v ∧ VOk x.v ∧ ∀ q, rdS x.s x.v q → q < W.heap.size
  | [], _ => ⟨[], rfl, fun _ h => absurd h (by simp)⟩
  | o :: xs, h => by
    obtain ⟨ms, h1, h2⟩ := msgs_of hm xs (fun x hx => h x (List.mem_cons_of_mem _ hx))
    obtain ⟨k, hk, hq⟩ := h o (by simp)
    obtain ⟨x, e, h3⟩ := msg_of hq (by omega)
    refine ⟨x :: ms, by rw [List.map_cons, ← h1, e], fun y hy => ?_⟩
    rcases List.mem_cons.1 hy with rfl | hy
    · exact h3
    · exact h2 y hy




end Go.Proofs.YtdlaoncjiolckaaGreat
