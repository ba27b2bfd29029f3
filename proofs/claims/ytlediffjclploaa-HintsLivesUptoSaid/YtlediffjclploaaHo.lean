/-
  The law HintsLives returns true for every input whose parts are together of bulk at most 1048576, and changes nothing that was there. No further condition.
-/
import Derived.Test.YtlediffjclploaaHn
namespace Go.Proofs.Ytlediffjclploaa.hintsLives
open Go.ChangeShapes Go.WideShapes Go.ChangeAt Go.RowKit
abbrev HintQ (W : World) (x : Hint) (m : Nat) : Prop := (∃ k, k ≤ m ∧ IntQ W x.owner k) ∧ (∃ k, k ≤ m ∧ StrQ W x.key k)
theorem reads_Hint : Reads Try.prog 42 Hint HintQ := by
  intro H enc W fuel cs x h
  obtain ⟨xs, n, rfl, rfl, hlen, hxs, hf⟩ := DataW.trod_struct Try.underlying42 h
  obtain ⟨y0, y1, rfl⟩ : ∃ y0 y1, xs = [y0, y1] := by
    match xs, hxs with
    | [y0, y1], _ => exact ⟨y0, y1, rfl⟩
  obtain ⟨v0, e0, q0⟩ := (reads_int Try.underlying3) H enc W n _ _ (hf 0 _ rfl)
  replace e0 : (cs.drop 0).take (Try.prog.cellsOf 3) = cellsOf v0 := e0
  rw [show Try.prog.cellsOf 3 = 1 by kernel_rfl] at e0
  have c0 : cs.drop 0 = (cs.drop 0).take 1 ++ cs.drop 1 := chunk cs 0 1
  obtain ⟨v1, e1, q1⟩ := (reads_string Try.underlying9) H enc W n _ _ (hf 1 _ rfl)
  replace e1 : (cs.drop 1).take (Try.prog.cellsOf 9) = cellsOf v1 := e1
  rw [show Try.prog.cellsOf 9 = 1 by kernel_rfl] at e1
  have c1 : cs.drop 1 = (cs.drop 1).take 1 ++ cs.drop 2 := chunk cs 1 1
  have hl : cs.length = 2 := hlen.trans (by kernel_rfl)
  have t : cs = cs.drop 0 := rfl
  have cN : cs.drop 2 = [] := List.drop_eq_nil_of_le (by omega)
  rw [e0] at c0
  rw [e1] at c1
  rw [c0, c1, cN] at t
  refine ⟨⟨v0, v1⟩, t, ⟨_, ?_, q0⟩, ⟨_, ?_, q1⟩⟩
  all_goals (simp only [List.map_cons, List.map_nil, Rows.uptoBulk, Rows.uptoBulkAll]; omega)
abbrev DoCQ (W : World) (x : DoC) (m : Nat) : Prop := (∃ k, k ≤ m ∧ IntQ W x.op k) ∧ (∃ k, k ≤ m ∧ HintQ W x.hint k) ∧ (∃ k, k ≤ m ∧ IntQ W x.now k) ∧ (∃ k, k ≤ m ∧ (SlicesQ IntQ) W x.up k)
theorem reads_DoC : Reads Try.prog 63 DoC DoCQ := by
  intro H enc W fuel cs x h
  obtain ⟨xs, n, rfl, rfl, hlen, hxs, hf⟩ := DataW.trod_struct Try.underlying63 h
  obtain ⟨y0, y1, y2, y3, rfl⟩ : ∃ y0 y1 y2 y3, xs = [y0, y1, y2, y3] := by
    match xs, hxs with
    | [y0, y1, y2, y3], _ => exact ⟨y0, y1, y2, y3, rfl⟩
  obtain ⟨v0, e0, q0⟩ := (reads_int Try.underlying3) H enc W n _ _ (hf 0 _ rfl)
  replace e0 : (cs.drop 0).take (Try.prog.cellsOf 3) = cellsOf v0 := e0
  rw [show Try.prog.cellsOf 3 = 1 by kernel_rfl] at e0
  have c0 : cs.drop 0 = (cs.drop 0).take 1 ++ cs.drop 1 := chunk cs 0 1
  obtain ⟨v1, e1, q1⟩ := (reads_Hint) H enc W n _ _ (hf 1 _ rfl)
  replace e1 : (cs.drop 1).take (Try.prog.cellsOf 42) = cellsOf v1 := e1
  rw [show Try.prog.cellsOf 42 = 2 by kernel_rfl] at e1
  have c1 : cs.drop 1 = (cs.drop 1).take 2 ++ cs.drop 3 := chunk cs 1 2
  obtain ⟨v2, e2, q2⟩ := (reads_int Try.underlying3) H enc W n _ _ (hf 2 _ rfl)
  replace e2 : (cs.drop 3).take (Try.prog.cellsOf 3) = cellsOf v2 := e2
  rw [show Try.prog.cellsOf 3 = 1 by kernel_rfl] at e2
  have c2 : cs.drop 3 = (cs.drop 3).take 1 ++ cs.drop 4 := chunk cs 3 1
  obtain ⟨v3, e3, q3⟩ := (reads_slice (α := Int) Try.underlying22 (by kernel_rfl) (reads_int Try.underlying3)) H enc W n _ _ (hf 3 _ rfl)
  replace e3 : (cs.drop 4).take (Try.prog.cellsOf 22) = cellsOf v3 := e3
  rw [show Try.prog.cellsOf 22 = 1 by kernel_rfl] at e3
  have c3 : cs.drop 4 = (cs.drop 4).take 1 ++ cs.drop 5 := chunk cs 4 1
  have hl : cs.length = 5 := hlen.trans (by kernel_rfl)
  have t : cs = cs.drop 0 := rfl
  have cN : cs.drop 5 = [] := List.drop_eq_nil_of_le (by omega)
  rw [e0] at c0
  rw [e1] at c1
  rw [e2] at c2
  rw [e3] at c3
  rw [c0, c1, c2, c3, cN] at t
  refine ⟨⟨v0, v1, v2, v3⟩, t, ⟨_, ?_, q0⟩, ⟨_, ?_, q1⟩, ⟨_, ?_, q2⟩, ⟨_, ?_, q3⟩⟩
  all_goals (simp only [List.map_cons, List.map_nil, Rows.uptoBulk, Rows.uptoBulkAll]; omega)
theorem do_ok {W : World} {o : DoC} {m : Nat} (h : DoCQ W o m) (hm : m ≤ 1048576) : DoOk W o := by
  obtain ⟨-, ⟨k1, h1, h2⟩, ⟨k3, h3, h4⟩, ⟨k5, h5, up, u1, u2, u3, u4, u5⟩⟩ := h
  obtain ⟨-, ⟨k6, h6, h7⟩⟩ := h2
  exact ⟨by omega, h4.1, up, u1, u2, by omega, u5⟩

theorem own : ownKnob Try.prog.godebug = none := by kernel_rfl
theorem laid : laidOutB Try.prog = true := by kernel_rfl
set_option maxHeartbeats 1000000 in
theorem contract (H : Type) (enc : TypeId × Value → H) (W : World) (base : Nat) (args : Array Value) (ds gs : List (DataW H)) (before : List MemPlace)
    (hval : ∀ (j : Nat) t v, Try.f8.params[j]? = some t → args[j]? = some v → Value.okWide Try.prog W .any base t v)
    (hW : DataW.Whole enc Try.prog Try.f8.params.toList Rows.hintsLivesSpec.vars false W args.toList ds gs before) (hk : Rows.uptoSmall H (ds ++ gs) = true) :
    Calls Try.prog 8 args W fun e W' => ∃ v, e = .returned v ∧ Rows.hintsLivesSpec.post enc Try.prog Try.f8 false true false false W args v W' := by
  have hW' := hW
  obtain ⟨p, q, hA0, hV, rfl, hfz, hnd⟩ := hW
  have hA : DataW.TrodAll enc Try.prog W 0 (fun _ => true) true Try.f8.params.toList args.toList ds p := hA0
  rw [Try.params8] at hA hval
  obtain ⟨v0, vs0, d0, ds0, p0, q0, hargs, rfl, rfl, h0, r0⟩ := trodAll_cons hA
  obtain ⟨rfl, rfl, rfl⟩ := trodAll_nil r0
  obtain rfl : args = #[v0] := by cases args; simp_all
  obtain ⟨rfl, rfl⟩ := trodVars_none hV
  clear hA0 hA
  have hk0 : Rows.uptoBulkAll [d0] ≤ 1048576 := by have h : Rows.uptoBulkAll ([d0] ++ []) ≤ 1048576 := of_decide_eq_true hk; simpa using h
  simp only [Rows.uptoBulkAll] at hk0
  obtain ⟨s0, rfl, x0, hl0, hs0, hm0, hq0, _⟩ := param_slice Try.underlying56 (reads_slice (α := DoC) Try.underlying56 (by kernel_rfl) (reads_DoC)) (hval 0 56 v0 rfl rfl) h0
  obtain ⟨a0, len0, c0⟩ := s0
  simp only at hl0 hs0
  subst hl0
  refine (law_lives a0 x0 c0 W hs0 (by omega) (fun o ho => by obtain ⟨k, h1, h2⟩ := hq0 o ho; exact do_ok h2 (by omega))).mono fun e W' he => ?_
  obtain ⟨v, rfl, rfl, hext⟩ := he
  exact ⟨_, rfl, law_post rfl laid (by rw [Try.params8]; intro t ht; simp at ht; rcases ht with rfl <;> exact ⟨by kernel_rfl, by decide +kernel⟩) hW' rfl rfl Try.underlying4 hext⟩

set_option maxRecDepth 100000 in
theorem lifted (os : Os) (started : os.Started) (H : Type) (enc : TypeId × Value → H) (F : Stop.Interp) :
    ReturnsInHanded {} Try.checked os 8 .any ((Rows.OpenSpec.upto Rows.hintsLivesSpec).pre6 enc Try.prog Try.f8 Rows.hintsLivesUptoRow.domain false) (((Rows.OpenSpec.upto Rows.hintsLivesSpec).at F).post enc Try.prog Try.f8 false true false false) := by
  refine returnsInHanded_of_cond (C := Try.checked) (s := Rows.OpenSpec.upto Rows.hintsLivesSpec) (k := Rows.uptoSmall) rfl own started (by kernel_rfl) Try.func8
    (OpenSpec.witness (enc := enc) (C := Try.checked) (s := Rows.OpenSpec.upto Rows.hintsLivesSpec) (k := Rows.uptoSmall) rfl false ⟨#[], #[.slice none 0 0], []⟩ 8 (by kernel_rfl) (by kernel_rfl) (by kernel_rfl)
      (x := ([.nil], [], [])) (by kernel_rfl) rfl (by kernel_rfl)) ?_
  intro W base args ds gs before hval hW _ hk _
  exact contract H enc W base args ds gs before hval hW hk

theorem proved : Rows.HintsLivesUptoSaid :=
  OpenClaim.holds_of_cond 8 Try.f8 rfl rfl rfl rfl rfl rfl rfl ⟨rfl, rfl, rfl, rfl, rfl⟩ rfl rfl rfl rfl rfl (by kernel_rfl) Try.func8 (by kernel_rfl)
    (of_decide_eq_true (by kernel_rfl)) (by unfold Func.isWrapper; first | (rw [if_pos (by decide +kernel)]; kernel_rfl) | (rw [if_neg (by decide +kernel)]; exact ⟨rfl, rfl⟩))
    (fun os started H enc _ F => lifted os started H enc F)
end Go.Proofs.Ytlediffjclploaa.hintsLives
