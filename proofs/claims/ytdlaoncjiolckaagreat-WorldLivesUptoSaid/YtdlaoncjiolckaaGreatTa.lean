/-
  The law WorldLives returns true for every input whose parts are together of bulk at most 1048576, and changes nothing that was there. No further condition.
-/
import Derived.Test.YtdlaoncjiolckaaGreatWr
import Derived.Test.YtdlaoncjiolckaaGreatLw
import Derived.Test.YtdlaoncjiolckaaGreatFrame
namespace Go.Proofs.YtdlaoncjiolckaaGreat.worldLives
open Go.ChangeShapes Go.WideShapes Go.ChangeAt Go.RowKit
abbrev DoCQ (W : World) (x : DoC) (m : Nat) : Prop := (∃ k, k ≤ m ∧ IntQ W x.op k) ∧ (∃ k, k ≤ m ∧ (SlicesQ MsgCQ) W x.msgs k) ∧ (∃ k, k ≤ m ∧ IntQ W x.a k) ∧ (∃ k, k ≤ m ∧ IntQ W x.b k)
theorem reads_DoC : Reads Tryz.prog 33 DoC DoCQ := by
  intro H enc W fuel cs x h
  obtain ⟨xs, n, rfl, rfl, hlen, hxs, hf⟩ := DataW.trod_struct Tryz.underlying33 h
  obtain ⟨y0, y1, y2, y3, rfl⟩ : ∃ y0 y1 y2 y3, xs = [y0, y1, y2, y3] := by
    match xs, hxs with
    | [y0, y1, y2, y3], _ => exact ⟨y0, y1, y2, y3, rfl⟩
  obtain ⟨v0, e0, q0⟩ := (reads_int Tryz.underlying3) H enc W n _ _ (hf 0 _ rfl)
  replace e0 : (cs.drop 0).take (Tryz.prog.cellsOf 3) = cellsOf v0 := e0
  rw [show Tryz.prog.cellsOf 3 = 1 by kernel_rfl] at e0
  have c0 : cs.drop 0 = (cs.drop 0).take 1 ++ cs.drop 1 := chunk cs 0 1
  obtain ⟨v1, e1, q1⟩ := (reads_slice (α := MsgC) Tryz.underlying31 (by kernel_rfl) reads_MsgC) H enc W n _ _ (hf 1 _ rfl)
  replace e1 : (cs.drop 1).take (Tryz.prog.cellsOf 31) = cellsOf v1 := e1
  rw [show Tryz.prog.cellsOf 31 = 1 by kernel_rfl] at e1
  have c1 : cs.drop 1 = (cs.drop 1).take 1 ++ cs.drop 2 := chunk cs 1 1
  obtain ⟨v2, e2, q2⟩ := (reads_int Tryz.underlying3) H enc W n _ _ (hf 2 _ rfl)
  replace e2 : (cs.drop 2).take (Tryz.prog.cellsOf 3) = cellsOf v2 := e2
  rw [show Tryz.prog.cellsOf 3 = 1 by kernel_rfl] at e2
  have c2 : cs.drop 2 = (cs.drop 2).take 1 ++ cs.drop 3 := chunk cs 2 1
  obtain ⟨v3, e3, q3⟩ := (reads_int Tryz.underlying3) H enc W n _ _ (hf 3 _ rfl)
  replace e3 : (cs.drop 3).take (Tryz.prog.cellsOf 3) = cellsOf v3 := e3
  rw [show Tryz.prog.cellsOf 3 = 1 by kernel_rfl] at e3
  have c3 : cs.drop 3 = (cs.drop 3).take 1 ++ cs.drop 4 := chunk cs 3 1
  have hl : cs.length = 4 := hlen.trans (by kernel_rfl)
  have t : cs = cs.drop 0 := rfl
  have cN : cs.drop 4 = [] := List.drop_eq_nil_of_le (by omega)
  rw [e0] at c0
  rw [e1] at c1
  rw [e2] at c2
  rw [e3] at c3
  rw [c0, c1, c2, c3, cN] at t
  refine ⟨⟨v0, v1, v2, v3⟩, t, ⟨_, ?_, q0⟩, ⟨_, ?_, q1⟩, ⟨_, ?_, q2⟩, ⟨_, ?_, q3⟩⟩
  all_goals (simp only [List.map_cons, List.map_nil, Rows.uptoBulk, Rows.uptoBulkAll]; omega)
theorem do_ok {W : World} {o : DoC} {m : Nat} (h : DoCQ W o m) (hm : m ≤ 1048576) : DoOk W o := by
  obtain ⟨⟨k0, g0, g1⟩, ⟨k, hk, xs, u1, u2, u3, u4, u5⟩, -⟩ := h
  obtain ⟨ms, rfl, hms⟩ := msgs_of (by omega) xs u4
  exact ⟨⟨g1.1.1, g1.1.2⟩, ms, u1, u2, by rw [List.length_map] at u3; omega, fun m hm => ⟨(hms m hm).1, (hms m hm).2.1⟩⟩

theorem own : ownKnob Tryz.prog.godebug = none := by kernel_rfl
theorem laid : laidOutB Tryz.prog = true := by kernel_rfl
set_option maxRecDepth 100000 in
set_option maxHeartbeats 1000000 in
theorem contract (H : Type) (enc : TypeId × Value → H) (W : World) (base : Nat) (args : Array Value) (ds gs : List (DataW H)) (before : List MemPlace)
    (hval : ∀ (j : Nat) t v, Tryz.f3.params[j]? = some t → args[j]? = some v → Value.okWide Tryz.prog W .any base t v)
    (hW : DataW.Whole enc Tryz.prog Tryz.f3.params.toList Rows.worldLivesSpec.vars false W args.toList ds gs before) (hk : Rows.uptoSmall H (ds ++ gs) = true) :
    Calls Tryz.prog 3 args W fun e W' => ∃ v, e = .returned v ∧ Rows.worldLivesSpec.post enc Tryz.prog Tryz.f3 false true false false W args v W' := by
  have hW' := hW
  obtain ⟨p, q, hA0, hV, rfl, hfz, hnd⟩ := hW
  have hA : DataW.TrodAll enc Tryz.prog W 0 (fun _ => true) true Tryz.f3.params.toList args.toList ds p := hA0
  rw [Tryz.params3] at hA hval
  obtain ⟨v0, vs0, d0, ds0, p0, q0, hargs, rfl, rfl, h0, r0⟩ := trodAll_cons hA
  obtain ⟨v1, vs1, d1, ds1, p1, q1, rfl, rfl, rfl, h1, r1⟩ := trodAll_cons r0
  obtain ⟨rfl, rfl, rfl⟩ := trodAll_nil r1
  obtain rfl : args = #[v0, v1] := by cases args; simp_all
  obtain ⟨rfl, rfl⟩ := trodVars_none hV
  clear hA0 hA
  have hk0 : Rows.uptoBulkAll [d0, d1] ≤ 1048576 := by have h : Rows.uptoBulkAll ([d0, d1] ++ []) ≤ 1048576 := of_decide_eq_true hk; simpa using h
  simp only [Rows.uptoBulkAll] at hk0
  obtain ⟨z0, rfl, hz0⟩ := param_int Tryz.underlying3 (reads_int Tryz.underlying3) h0 (hval 0 3 v0 rfl rfl)
  obtain ⟨s1, rfl, x1, hl1, hs1, hm1, hq1, hu1⟩ := param_slice Tryz.underlying22 (reads_slice (α := DoC) Tryz.underlying22 (by kernel_rfl) (reads_DoC)) (hval 1 22 v1 rfl rfl) h1
  obtain ⟨a1, len1, c1⟩ := s1
  simp only at hl1 hs1 hu1
  subst hl1
  refine (law_lives z0 a1 x1 c1 W hs1 (by omega) (fun o ho => by obtain ⟨k, h1, h2⟩ := hq1 o ho; exact do_ok h2 (by omega))).mono fun e W' he => ?_
  obtain ⟨v, rfl, rfl, hext⟩ := he
  exact ⟨_, rfl, law_post rfl laid (by rw [Tryz.params3]; intro t ht; simp at ht; rcases ht with rfl | rfl <;> exact ⟨by kernel_rfl, by decide +kernel⟩) hW' rfl rfl Tryz.underlying4 hext⟩

set_option maxRecDepth 100000 in
theorem lifted (os : Os) (started : os.Started) (H : Type) (enc : TypeId × Value → H) (F : Stop.Interp) :
    ReturnsInHanded {} Tryz.checked os 3 .any ((Rows.OpenSpec.upto Rows.worldLivesSpec).pre6 enc Tryz.prog Tryz.f3 Rows.worldLivesUptoRow.domain false) (((Rows.OpenSpec.upto Rows.worldLivesSpec).at F).post enc Tryz.prog Tryz.f3 false true false false) := by
  refine returnsInHanded_of_cond (C := Tryz.checked) (s := Rows.OpenSpec.upto Rows.worldLivesSpec) (k := Rows.uptoSmall) rfl own started (by kernel_rfl) Tryz.func3
    (OpenSpec.witness (enc := enc) (C := Tryz.checked) (s := Rows.OpenSpec.upto Rows.worldLivesSpec) (k := Rows.uptoSmall) rfl false ⟨#[], #[.int .i64 0, .slice none 0 0], []⟩ 8 (by kernel_rfl) (by kernel_rfl) (by kernel_rfl)
      (x := ([.lit (.int .i64 0), .nil], [], [])) (by kernel_rfl) rfl (by kernel_rfl)) ?_
  intro W base args ds gs before hval hW _ hk _
  exact contract H enc W base args ds gs before hval hW hk

set_option maxRecDepth 100000 in
theorem proved : Rows.WorldLivesUptoSaid :=
  OpenClaim.holds_of_cond 3 Tryz.f3 rfl rfl rfl rfl rfl rfl rfl ⟨rfl, rfl, rfl, rfl, rfl⟩ rfl rfl rfl rfl rfl (by kernel_rfl) Tryz.func3 (by kernel_rfl)
    (of_decide_eq_true (by kernel_rfl)) (by unfold Func.isWrapper; first | (rw [if_pos (by decide +kernel)]; kernel_rfl) | (rw [if_neg (by decide +kernel)]; exact ⟨rfl, rfl⟩))
    (fun os started H enc _ F => lifted os started H enc F)
end Go.Proofs.YtdlaoncjiolckaaGreat.worldLives
