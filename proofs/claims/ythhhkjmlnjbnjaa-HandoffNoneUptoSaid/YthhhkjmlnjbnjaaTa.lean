/-
  The law HandoffNone returns true for every input whose parts are together of bulk at most 1048576, and changes nothing that was there. No further condition.
-/
import Derived.Test.YthhhkjmlnjbnjaaOg
import Derived.Test.YthhhkjmlnjbnjaaFrame
namespace Go.Proofs.Ythhhkjmlnjbnjaa.handoffNone
open Go.ChangeShapes Go.WideShapes Go.ChangeAt Go.RowKit
abbrev DoCQ (W : World) (x : DoC) (m : Nat) : Prop := (∃ k, k ≤ m ∧ IntQ W x.op k) ∧ (∃ k, k ≤ m ∧ IntQ W x.part k) ∧ (∃ k, k ≤ m ∧ IntQ W x.to k) ∧ (∃ k, k ≤ m ∧ (SlicesQ StrQ) W x.keys k) ∧ (∃ k, k ≤ m ∧ IntQ W x.now k) ∧ (∃ k, k ≤ m ∧ IntQ W x.kind k) ∧ (∃ k, k ≤ m ∧ StrQ W x.key k) ∧ (∃ k, k ≤ m ∧ IntQ W x.req k)
theorem reads_DoC : Reads Try.prog 57 DoC DoCQ := by
  intro H enc W fuel cs x h
  obtain ⟨xs, n, rfl, rfl, hlen, hxs, hf⟩ := DataW.trod_struct Try.underlying57 h
  obtain ⟨y0, y1, y2, y3, y4, y5, y6, y7, rfl⟩ : ∃ y0 y1 y2 y3 y4 y5 y6 y7, xs = [y0, y1, y2, y3, y4, y5, y6, y7] := by
    match xs, hxs with
    | [y0, y1, y2, y3, y4, y5, y6, y7], _ => exact ⟨y0, y1, y2, y3, y4, y5, y6, y7, rfl⟩
  obtain ⟨v0, e0, q0⟩ := (reads_int Try.underlying3) H enc W n _ _ (hf 0 _ rfl)
  replace e0 : (cs.drop 0).take (Try.prog.cellsOf 3) = cellsOf v0 := e0
  rw [show Try.prog.cellsOf 3 = 1 by kernel_rfl] at e0
  have c0 : cs.drop 0 = (cs.drop 0).take 1 ++ cs.drop 1 := chunk cs 0 1
  obtain ⟨v1, e1, q1⟩ := (reads_int Try.underlying3) H enc W n _ _ (hf 1 _ rfl)
  replace e1 : (cs.drop 1).take (Try.prog.cellsOf 3) = cellsOf v1 := e1
  rw [show Try.prog.cellsOf 3 = 1 by kernel_rfl] at e1
  have c1 : cs.drop 1 = (cs.drop 1).take 1 ++ cs.drop 2 := chunk cs 1 1
  obtain ⟨v2, e2, q2⟩ := (reads_int Try.underlying3) H enc W n _ _ (hf 2 _ rfl)
  replace e2 : (cs.drop 2).take (Try.prog.cellsOf 3) = cellsOf v2 := e2
  rw [show Try.prog.cellsOf 3 = 1 by kernel_rfl] at e2
  have c2 : cs.drop 2 = (cs.drop 2).take 1 ++ cs.drop 3 := chunk cs 2 1
  obtain ⟨v3, e3, q3⟩ := (reads_slice (α := ByteArray) Try.underlying22 (by kernel_rfl) (reads_string Try.underlying9)) H enc W n _ _ (hf 3 _ rfl)
  replace e3 : (cs.drop 3).take (Try.prog.cellsOf 22) = cellsOf v3 := e3
  rw [show Try.prog.cellsOf 22 = 1 by kernel_rfl] at e3
  have c3 : cs.drop 3 = (cs.drop 3).take 1 ++ cs.drop 4 := chunk cs 3 1
  obtain ⟨v4, e4, q4⟩ := (reads_int Try.underlying3) H enc W n _ _ (hf 4 _ rfl)
  replace e4 : (cs.drop 4).take (Try.prog.cellsOf 3) = cellsOf v4 := e4
  rw [show Try.prog.cellsOf 3 = 1 by kernel_rfl] at e4
  have c4 : cs.drop 4 = (cs.drop 4).take 1 ++ cs.drop 5 := chunk cs 4 1
  obtain ⟨v5, e5, q5⟩ := (reads_int Try.underlying3) H enc W n _ _ (hf 5 _ rfl)
  replace e5 : (cs.drop 5).take (Try.prog.cellsOf 3) = cellsOf v5 := e5
  rw [show Try.prog.cellsOf 3 = 1 by kernel_rfl] at e5
  have c5 : cs.drop 5 = (cs.drop 5).take 1 ++ cs.drop 6 := chunk cs 5 1
  obtain ⟨v6, e6, q6⟩ := (reads_string Try.underlying9) H enc W n _ _ (hf 6 _ rfl)
  replace e6 : (cs.drop 6).take (Try.prog.cellsOf 9) = cellsOf v6 := e6
  rw [show Try.prog.cellsOf 9 = 1 by kernel_rfl] at e6
  have c6 : cs.drop 6 = (cs.drop 6).take 1 ++ cs.drop 7 := chunk cs 6 1
  obtain ⟨v7, e7, q7⟩ := (reads_int Try.underlying3) H enc W n _ _ (hf 7 _ rfl)
  replace e7 : (cs.drop 7).take (Try.prog.cellsOf 3) = cellsOf v7 := e7
  rw [show Try.prog.cellsOf 3 = 1 by kernel_rfl] at e7
  have c7 : cs.drop 7 = (cs.drop 7).take 1 ++ cs.drop 8 := chunk cs 7 1
  have hl : cs.length = 8 := hlen.trans (by kernel_rfl)
  have t : cs = cs.drop 0 := rfl
  have cN : cs.drop 8 = [] := List.drop_eq_nil_of_le (by omega)
  rw [e0] at c0
  rw [e1] at c1
  rw [e2] at c2
  rw [e3] at c3
  rw [e4] at c4
  rw [e5] at c5
  rw [e6] at c6
  rw [e7] at c7
  rw [c0, c1, c2, c3, c4, c5, c6, c7, cN] at t
  refine ⟨⟨v0, v1, v2, v3, v4, v5, v6, v7⟩, t, ⟨_, ?_, q0⟩, ⟨_, ?_, q1⟩, ⟨_, ?_, q2⟩, ⟨_, ?_, q3⟩, ⟨_, ?_, q4⟩, ⟨_, ?_, q5⟩, ⟨_, ?_, q6⟩, ⟨_, ?_, q7⟩⟩
  all_goals (simp only [List.map_cons, List.map_nil, Rows.uptoBulk, Rows.uptoBulkAll]; omega)

theorem own : ownKnob Try.prog.godebug = none := by kernel_rfl
theorem laid : laidOutB Try.prog = true := by kernel_rfl
set_option maxRecDepth 100000 in
set_option maxHeartbeats 1000000 in
theorem contract (H : Type) (enc : TypeId × Value → H) (W : World) (base : Nat) (args : Array Value) (ds gs : List (DataW H)) (before : List MemPlace)
    (hval : ∀ (j : Nat) t v, Try.f5.params[j]? = some t → args[j]? = some v → Value.okWide Try.prog W .any base t v)
    (hW : DataW.Whole enc Try.prog Try.f5.params.toList Rows.handoffNoneSpec.vars false W args.toList ds gs before) (hk : Rows.uptoSmall H (ds ++ gs) = true) :
    Calls Try.prog 5 args W fun e W' => ∃ v, e = .returned v ∧ Rows.handoffNoneSpec.post enc Try.prog Try.f5 false true false false W args v W' := by
  have hW' := hW
  obtain ⟨p, q, hA0, hV, rfl, hfz, hnd⟩ := hW
  have hA : DataW.TrodAll enc Try.prog W 0 (fun _ => true) true Try.f5.params.toList args.toList ds p := hA0
  rw [Try.params5] at hA hval
  obtain ⟨v0, vs0, d0, ds0, p0, q0, hargs, rfl, rfl, h0, r0⟩ := trodAll_cons hA
  obtain ⟨rfl, rfl, rfl⟩ := trodAll_nil r0
  obtain rfl : args = #[v0] := by cases args; simp_all
  obtain ⟨rfl, rfl⟩ := trodVars_none hV
  clear hA0 hA
  have hk0 : Rows.uptoBulkAll [d0] ≤ 1048576 := by have h : Rows.uptoBulkAll ([d0] ++ []) ≤ 1048576 := of_decide_eq_true hk; simpa using h
  simp only [Rows.uptoBulkAll] at hk0
  obtain ⟨y0, rfl, hy0⟩ := param_struct Try.underlying57 reads_DoC (hval 0 57 v0 rfl rfl) h0
  refine (law_none y0 W).mono fun e W' he => ?_
  obtain ⟨v, rfl, rfl, hext⟩ := he
  exact ⟨_, rfl, law_post rfl laid (by rw [Try.params5]; intro t ht; simp at ht; rcases ht with rfl <;> exact ⟨by kernel_rfl, by decide +kernel⟩) hW' rfl rfl Try.underlying4 hext⟩

set_option maxRecDepth 100000 in
theorem lifted (os : Os) (started : os.Started) (H : Type) (enc : TypeId × Value → H) (F : Stop.Interp) :
    ReturnsInHanded {} Try.checked os 5 .any ((Rows.OpenSpec.upto Rows.handoffNoneSpec).pre6 enc Try.prog Try.f5 Rows.handoffNoneUptoRow.domain false) (((Rows.OpenSpec.upto Rows.handoffNoneSpec).at F).post enc Try.prog Try.f5 false true false false) := by
  refine returnsInHanded_of_cond (C := Try.checked) (s := Rows.OpenSpec.upto Rows.handoffNoneSpec) (k := Rows.uptoSmall) rfl own started (by kernel_rfl) Try.func5
    (OpenSpec.witness (enc := enc) (C := Try.checked) (s := Rows.OpenSpec.upto Rows.handoffNoneSpec) (k := Rows.uptoSmall) rfl false ⟨#[], #[.agg #[.int .i64 0, .int .i64 0, .int .i64 0, .slice none 0 0, .int .i64 0, .int .i64 0, .string ⟨#[]⟩, .int .i64 0]], []⟩ 8 (by kernel_rfl) (by kernel_rfl) (by kernel_rfl)
      (x := ([.agg [.lit (.int .i64 0), .lit (.int .i64 0), .lit (.int .i64 0), .nil, .lit (.int .i64 0), .lit (.int .i64 0), .lit (.string []), .lit (.int .i64 0)]], [], [])) (by kernel_rfl) rfl (by kernel_rfl)) ?_
  intro W base args ds gs before hval hW _ hk _
  exact contract H enc W base args ds gs before hval hW hk

set_option maxRecDepth 100000 in
theorem proved : Rows.HandoffNoneUptoSaid :=
  OpenClaim.holds_of_cond 5 Try.f5 rfl rfl rfl rfl rfl rfl rfl ⟨rfl, rfl, rfl, rfl, rfl⟩ rfl rfl rfl rfl rfl (by kernel_rfl) Try.func5 (by kernel_rfl)
    (of_decide_eq_true (by kernel_rfl)) (by unfold Func.isWrapper; first | (rw [if_pos (by decide +kernel)]; kernel_rfl) | (rw [if_neg (by decide +kernel)]; exact ⟨rfl, rfl⟩))
    (fun os started H enc _ F => lifted os started H enc F)
end Go.Proofs.Ythhhkjmlnjbnjaa.handoffNone
