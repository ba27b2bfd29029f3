/-
  The law HandoffLives returns true for every input whose parts are together of bulk at most 1048576, and changes nothing that was there. No further condition.
-/
import Derived.Test.YthhhkjmlnjbnjaaOq
import Derived.Test.YthhhkjmlnjbnjaaFrame
namespace Go.Proofs.Ythhhkjmlnjbnjaa.handoffLives
open Go.ChangeShapes Go.WideShapes Go.ChangeAt Go.RowKit
abbrev DoCQ (W : World) (x : DoC) (m : Nat) : Prop := (∃ k, k ≤ m ∧ IntQ W x.op k) ∧ (∃ k, k ≤ m ∧ IntQ W x.part k) ∧ (∃ k, k ≤ m ∧ IntQ W x.to k) ∧ (∃ k, k ≤ m ∧ (SlicesQ StrQ) W x.keys k) ∧ (∃ k, k ≤ m ∧ IntQ W x.now k) ∧ (∃ k, k ≤ m ∧ IntQ W x.kind k) ∧ (∃ k, k ≤ m ∧ StrQ W x.key k) ∧ (∃ k, k ≤ m ∧ IntQ W x.req k)
theorem reads_DoC : Reads Try.prog 57 DoC DoCQ := by
  intro H enc W fuel cs x h
  obtain ⟨xs, n, rfl, rfl, hlen, hxs, hf⟩ := DataW.trod_struct Try.underlying57 h
  obtain ⟨y0, y1, y2, y3, y4, y5, y6, y7, rfl⟩ : ∃ y0 y1 y2 y3 y4 y5 y6 y7, xs = [y0, y1, y2, y3, y4, y5, y6, y7] := by
    match xs, hxs with
    | [y0, y1, y2, y3, y4, y5, y6, y7], _ => exact ⟨y0, y1, y2, y3, y4, y5, y6, y7, rfl⟩
  obtain ⟨v0, e0, q0⟩ := (reads_int Try.underlying3) H enc W n _ _ (hf 0 _ rfl)
  replace e0 : (cs.drop 0).take (Try.prog.cellsOf 3) = cellsOf v0 := e0
  rw [show Try.prog.cellsOf 3 = 1 by kernel_rfl] at e0
  have c0 : cs.drop 0 = (cs.drop 0).take 1 ++ cs.drop 1 := chunk cs 0 1
  obtain ⟨v1, e1, q1⟩ := (reads_int Try.underlying3) H enc W n _ _ (hf 1 _ rfl)
  replace e1 : (cs.drop 1).take (Try.prog.cellsOf 3) = cellsOf v1 := e1
  rw [show Try.prog.cellsOf 3 = 1 by kernel_rfl] at e1
  have c1 : cs.drop 1 = (cs.drop 1).take 1 ++ cs.drop 2 := chunk cs 1 1
  obtain ⟨v2, e2, q2⟩ := (reads_int Try.underlying3) H enc W n _ _ (hf 2 _ rfl)
  replace e2 : (cs.drop 2).take (Try.prog.cellsOf 3) = cellsOf v2 := e2
  rw [show Try.prog.cellsOf 3 = 1 by kernel_rfl] at e2
  have c2 : cs.drop 2 = (cs.drop 2).take 1 ++ cs.drop 3 := chunk cs 2 1
  obtain ⟨v3, e3, q3⟩ := (reads_slice (α := ByteArray) Try.underlying22 (by kernel_rfl) (reads_string Try.underlying9)) H enc W n _ _ (hf 3 _ rfl)
  replace e3 : (cs.drop 3).take (Try.prog.cellsOf 22) = cellsOf v3 := e3
  rw [show Try.prog.cellsOf 22 = 1 by kernel_rfl] at e3
  have c3 : cs.drop 3 = (cs.drop 3).take 1 ++ cs.drop 4 := chunk cs 3 1
  obtain ⟨v4, e4, q4⟩ := (reads_int Try.underlying3) H enc W n _ _ (hf 4 _ rfl)
  replace e4 : (cs.drop 4).take (Try.prog.cellsOf 3) = cellsOf v4 := e4
  rw [show Try.prog.cellsOf 3 = 1 by kernel_rfl] at e4
  have c4 : cs.drop 4 = (cs.drop 4).take 1 ++ cs.drop 5 := chunk cs 4 1
  obtain ⟨v5, e5, q5⟩ := (reads_int Try.underlying3) H enc W n _ _ (hf 5 _ rfl)
  replace e5 : (cs.drop 5).take (Try.prog.cellsOf 3) = cellsOf v5 := e5
  rw [show Try.prog.cellsOf 3 = 1 by kernel_rfl] at e5
  have c5 : cs.drop 5 = (cs.drop 5).take 1 ++ cs.drop 6 := chunk cs 5 1
  obtain ⟨v6, e6, q6⟩ := (reads_string Try.underlying9) H enc W n _ _ (hf 6 _ rfl)
  replace e6 : (cs.drop 6).take (Try.prog.cellsOf 9) = cellsOf v6 := e6
  rw [show Try.prog.cellsOf 9 = 1 by kernel_rfl] at e6
  have c6 : cs.drop 6 = (cs.drop 6).take 1 ++ cs.drop 7 := chunk cs 6 1
  obtain ⟨v7, e7, q7⟩ := (reads_int Try.underlying3) H enc W n _ _ (hf 7 _ rfl)
  replace e7 : (cs.drop 7).take (Try.prog.cellsOf 3) = cellsOf v7 := e7
  rw [show Try.prog.cellsOf 3 = 1 by kernel_rfl] at e7
  have c7 : cs.drop 7 = (cs.drop 7).take 1 ++ cs.drop 8 := chunk cs 7 1
  have hl : cs.length = 8 := hlen.trans (by kernel_rfl)
  have t : cs = cs.drop 0 := rfl
  have cN : cs.drop 8 = [] := List.drop_eq_nil_of_le (by omega)
  rw [e0] at c0
  rw [e1] at c1
  rw [e2] at c2
  rw [e3] at c3
  rw [e4] at c4
  rw [e5] at c5
  rw [e6] at c6
  rw [e7] at c7
  rw [c0, c1, c2, c3, c4, c5, c6, c7, cN] at t
  refine ⟨⟨v0, v1, v2, v3, v4, v5, v6, v7⟩, t, ⟨_, ?_, q0⟩, ⟨_, ?_, q1⟩, ⟨_, ?_, q2⟩, ⟨_, ?_, q3⟩, ⟨_, ?_, q4⟩, ⟨_, ?_, q5⟩, ⟨_, ?_, q6⟩, ⟨_, ?_, q7⟩⟩
  all_goals (simp only [List.map_cons, List.map_nil, Rows.uptoBulk, Rows.uptoBulkAll]; omega)
theorem do_ok {W : World} {o : DoC} {m : Nat} (h : DoCQ W o m) (hm : m ≤ 1048576) : DoOk W o := by
  obtain ⟨⟨k0, h0, g0⟩, -, -, ⟨k3, h3, pl, u1, u2, u3, u4, u5⟩, ⟨k4, h4, g4⟩, -⟩ := h
  refine ⟨g0.1, g4.1.2, pl, u1, u2, by omega, fun k hk => ?_, u5⟩
  obtain ⟨q, hq, hs⟩ := u4 k hk
  have e : k.size + 1 ≤ q := hs
  omega

theorem own : ownKnob Try.prog.godebug = none := by kernel_rfl
theorem laid : laidOutB Try.prog = true := by kernel_rfl
set_option maxRecDepth 100000 in
set_option maxHeartbeats 1000000 in
theorem contract (H : Type) (enc : TypeId × Value → H) (W : World) (base : Nat) (args : Array Value) (ds gs : List (DataW H)) (before : List MemPlace)
    (hval : ∀ (j : Nat) t v, Try.f8.params[j]? = some t → args[j]? = some v → Value.okWide Try.prog W .any base t v)
    (hW : DataW.Whole enc Try.prog Try.f8.params.toList Rows.handoffLivesSpec.vars false W args.toList ds gs before) (hk : Rows.uptoSmall H (ds ++ gs) = true) :
    Calls Try.prog 8 args W fun e W' => ∃ v, e = .returned v ∧ Rows.handoffLivesSpec.post enc Try.prog Try.f8 false true false false W args v W' := by
  have hW' := hW
  obtain ⟨p, q, hA0, hV, rfl, hfz, hnd⟩ := hW
  have hA : DataW.TrodAll enc Try.prog W 0 (fun _ => true) true Try.f8.params.toList args.toList ds p := hA0
  rw [Try.params8] at hA hval
  obtain ⟨v0, vs0, d0, ds0, p0, q0, hargs, rfl, rfl, h0, r0⟩ := trodAll_cons hA
  obtain ⟨v1, vs1, d1, ds1, p1, q1, rfl, rfl, rfl, h1, r1⟩ := trodAll_cons r0
  obtain ⟨rfl, rfl, rfl⟩ := trodAll_nil r1
  obtain rfl : args = #[v0, v1] := by cases args; simp_all
  obtain ⟨rfl, rfl⟩ := trodVars_none hV
  clear hA0 hA
  have hk0 : Rows.uptoBulkAll [d0, d1] ≤ 1048576 := by have h : Rows.uptoBulkAll ([d0, d1] ++ []) ≤ 1048576 := of_decide_eq_true hk; simpa using h
  simp only [Rows.uptoBulkAll] at hk0
  obtain ⟨z0, rfl, hz0⟩ := param_int Try.underlying3 (reads_int Try.underlying3) h0 (hval 0 3 v0 rfl rfl)
  obtain ⟨s1, rfl, x1, hl1, hs1, hm1, hq1, hu1⟩ := param_slice Try.underlying75 (reads_slice (α := DoC) Try.underlying75 (by kernel_rfl) (reads_DoC)) (hval 1 75 v1 rfl rfl) h1
  obtain ⟨a1, len1, c1⟩ := s1
  simp only at hl1 hs1 hu1
  subst hl1
  refine (law_lives_all z0 a1 x1 c1 W hs1 (by omega) (fun o ho => by obtain ⟨k, h1, h2⟩ := hq1 o ho; exact do_ok h2 (by omega))).mono fun e W' he => ?_
  obtain ⟨v, rfl, rfl, hext⟩ := he
  exact ⟨_, rfl, law_post rfl laid (by rw [Try.params8]; intro t ht; simp at ht; rcases ht with rfl | rfl <;> exact ⟨by kernel_rfl, by decide +kernel⟩) hW' rfl rfl Try.underlying4 hext⟩

set_option maxRecDepth 100000 in
theorem lifted (os : Os) (started : os.Started) (H : Type) (enc : TypeId × Value → H) (F : Stop.Interp) :
    ReturnsInHanded {} Try.checked os 8 .any ((Rows.OpenSpec.upto Rows.handoffLivesSpec).pre6 enc Try.prog Try.f8 Rows.handoffLivesUptoRow.domain false) (((Rows.OpenSpec.upto Rows.handoffLivesSpec).at F).post enc Try.prog Try.f8 false true false false) := by
  refine returnsInHanded_of_cond (C := Try.checked) (s := Rows.OpenSpec.upto Rows.handoffLivesSpec) (k := Rows.uptoSmall) rfl own started (by kernel_rfl) Try.func8
    (OpenSpec.witness (enc := enc) (C := Try.checked) (s := Rows.OpenSpec.upto Rows.handoffLivesSpec) (k := Rows.uptoSmall) rfl false ⟨#[], #[.int .i64 0, .slice none 0 0], []⟩ 8 (by kernel_rfl) (by kernel_rfl) (by kernel_rfl)
      (x := ([.lit (.int .i64 0), .nil], [], [])) (by kernel_rfl) rfl (by kernel_rfl)) ?_
  intro W base args ds gs before hval hW _ hk _
  exact contract H enc W base args ds gs before hval hW hk

set_option maxRecDepth 100000 in
theorem proved : Rows.HandoffLivesUptoSaid :=
  OpenClaim.holds_of_cond 8 Try.f8 rfl rfl rfl rfl rfl rfl rfl ⟨rfl, rfl, rfl, rfl, rfl⟩ rfl rfl rfl rfl rfl (by kernel_rfl) Try.func8 (by kernel_rfl)
    (of_decide_eq_true (by kernel_rfl)) (by unfold Func.isWrapper; first | (rw [if_pos (by decide +kernel)]; kernel_rfl) | (rw [if_neg (by decide +kernel)]; exact ⟨rfl, rfl⟩))
    (fun os started H enc _ F => lifted os started H enc F)
end Go.Proofs.Ythhhkjmlnjbnjaa.handoffLives
