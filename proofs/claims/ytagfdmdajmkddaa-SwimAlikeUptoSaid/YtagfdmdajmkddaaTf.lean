/-
  The law SwimAlike returns true for every input whose parts are together of bulk at most 1048576, and changes nothing that was there. No further condition.
-/
import Derived.Test.YtagfdmdajmkddaaSk
import Derived.Test.YtagfdmdajmkddaaFrame
namespace Go.Proofs.Ytagfdmdajmkddaa.swimAlike
open Go.ChangeShapes Go.WideShapes Go.ChangeAt Go.RowKit
abbrev PeerQ (W : World) (x : Peer) (m : Nat) : Prop := (∃ k, k ≤ m ∧ IntQ W x.node k) ∧ (∃ k, k ≤ m ∧ IntQ W x.inc k) ∧ (∃ k, k ≤ m ∧ IntQ W x.status k)
theorem reads_Peer : Reads Try.prog 23 Peer PeerQ := by
  intro H enc W fuel cs x h
  obtain ⟨xs, n, rfl, rfl, hlen, hxs, hf⟩ := DataW.trod_struct Try.underlying23 h
  obtain ⟨y0, y1, y2, rfl⟩ : ∃ y0 y1 y2, xs = [y0, y1, y2] := by
    match xs, hxs with
    | [y0, y1, y2], _ => exact ⟨y0, y1, y2, rfl⟩
  obtain ⟨v0, e0, q0⟩ := (reads_int Try.underlying3) H enc W n _ _ (hf 0 _ rfl)
  replace e0 : (cs.drop 0).take (Try.prog.cellsOf 3) = cellsOf v0 := e0
  rw [show Try.prog.cellsOf 3 = 1 by kernel_rfl] at e0
  have c0 : cs.drop 0 = (cs.drop 0).take 1 ++ cs.drop 1 := chunk cs 0 1
  obtain ⟨v1, e1, q1⟩ := (reads_int Try.underlying3) H enc W n _ _ (hf 1 _ rfl)
  replace e1 : (cs.drop 1).take (Try.prog.cellsOf 3) = cellsOf v1 := e1
  rw [show Try.prog.cellsOf 3 = 1 by kernel_rfl] at e1
  have c1 : cs.drop 1 = (cs.drop 1).take 1 ++ cs.drop 2 := chunk cs 1 1
  obtain ⟨v2, e2, q2⟩ := (reads_int Try.underlying3) H enc W n _ _ (hf 2 _ rfl)
  replace e2 : (cs.drop 2).take (Try.prog.cellsOf 3) = cellsOf v2 := e2
  rw [show Try.prog.cellsOf 3 = 1 by kernel_rfl] at e2
  have c2 : cs.drop 2 = (cs.drop 2).take 1 ++ cs.drop 3 := chunk cs 2 1
  have hl : cs.length = 3 := hlen.trans (by kernel_rfl)
  have t : cs = cs.drop 0 := rfl
  have cN : cs.drop 3 = [] := List.drop_eq_nil_of_le (by omega)
  rw [e0] at c0
  rw [e1] at c1
  rw [e2] at c2
  rw [c0, c1, c2, cN] at t
  refine ⟨⟨v0, v1, v2⟩, t, ⟨_, ?_, q0⟩, ⟨_, ?_, q1⟩, ⟨_, ?_, q2⟩⟩
  all_goals (simp only [List.map_cons, List.map_nil, Rows.uptoBulk, Rows.uptoBulkAll]; omega)

theorem own : ownKnob Try.prog.godebug = none := by kernel_rfl
theorem laid : laidOutB Try.prog = true := by kernel_rfl
set_option maxRecDepth 100000 in
set_option maxHeartbeats 1000000 in
theorem contract (H : Type) (enc : TypeId × Value → H) (W : World) (base : Nat) (args : Array Value) (ds gs : List (DataW H)) (before : List MemPlace)
    (hval : ∀ (j : Nat) t v, Try.f6.params[j]? = some t → args[j]? = some v → Value.okWide Try.prog W .any base t v)
    (hW : DataW.Whole enc Try.prog Try.f6.params.toList Rows.swimAlikeSpec.vars false W args.toList ds gs before) (hk : Rows.uptoSmall H (ds ++ gs) = true) :
    Calls Try.prog 6 args W fun e W' => ∃ v, e = .returned v ∧ Rows.swimAlikeSpec.post enc Try.prog Try.f6 false true false false W args v W' := by
  have hW' := hW
  obtain ⟨p, q, hA0, hV, rfl, hfz, hnd⟩ := hW
  have hA : DataW.TrodAll enc Try.prog W 0 (fun _ => true) true Try.f6.params.toList args.toList ds p := hA0
  rw [Try.params6] at hA hval
  obtain ⟨v0, vs0, d0, ds0, p0, q0, hargs, rfl, rfl, h0, r0⟩ := trodAll_cons hA
  obtain ⟨v1, vs1, d1, ds1, p1, q1, rfl, rfl, rfl, h1, r1⟩ := trodAll_cons r0
  obtain ⟨v2, vs2, d2, ds2, p2, q2, rfl, rfl, rfl, h2, r2⟩ := trodAll_cons r1
  obtain ⟨rfl, rfl, rfl⟩ := trodAll_nil r2
  obtain rfl : args = #[v0, v1, v2] := by cases args; simp_all
  obtain ⟨rfl, rfl⟩ := trodVars_none hV
  clear hA0 hA
  have hk0 : Rows.uptoBulkAll [d0, d1, d2] ≤ 1048576 := by have h : Rows.uptoBulkAll ([d0, d1, d2] ++ []) ≤ 1048576 := of_decide_eq_true hk; simpa using h
  simp only [Rows.uptoBulkAll] at hk0
  obtain ⟨s0, rfl, x0, hl0, hs0, hm0, hq0, hu0⟩ := param_slice Try.underlying32 (reads_slice (α := Peer) Try.underlying32 (by kernel_rfl) (reads_Peer)) (hval 0 32 v0 rfl rfl) h0
  obtain ⟨a0, len0, c0⟩ := s0
  simp only at hl0 hs0 hu0
  subst hl0
  obtain ⟨s1, rfl, x1, hl1, hs1, hm1, hq1, hu1⟩ := param_slice Try.underlying40 (reads_slice (α := U64) Try.underlying40 (by kernel_rfl) (reads_u64 Try.underlying27)) (hval 1 40 v1 rfl rfl) h1
  obtain ⟨a1, len1, c1⟩ := s1
  simp only at hl1 hs1 hu1
  subst hl1
  obtain ⟨s2, rfl, x2, hl2, hs2, hm2, hq2, hu2⟩ := param_slice Try.underlying41 (reads_slice (α := Int) Try.underlying41 (by kernel_rfl) (reads_int Try.underlying3)) (hval 2 41 v2 rfl rfl) h2
  obtain ⟨a2, len2, c2⟩ := s2
  simp only at hl2 hs2 hu2
  subst hl2
  refine (law_alike a0 x0 c0 a1 x1 c1 a2 x2 c2 W hs0 hs1 hs2 (by omega) (by omega) (by omega) (fun k hk => by obtain ⟨q, h1, h2⟩ := hq1 k hk; exact h2.1.1) (fun z hz => by obtain ⟨q, h1, h2⟩ := hq2 z hz; exact h2.1.2)).mono fun e W' he => ?_
  obtain ⟨v, rfl, rfl, hext⟩ := he
  exact ⟨_, rfl, law_post rfl laid (by rw [Try.params6]; intro t ht; simp at ht; rcases ht with rfl | rfl | rfl <;> exact ⟨by kernel_rfl, by decide +kernel⟩) hW' rfl rfl Try.underlying4 hext⟩

set_option maxRecDepth 100000 in
theorem lifted (os : Os) (started : os.Started) (H : Type) (enc : TypeId × Value → H) (F : Stop.Interp) :
    ReturnsInHanded {} Try.checked os 6 .any ((Rows.OpenSpec.upto Rows.swimAlikeSpec).pre6 enc Try.prog Try.f6 Rows.swimAlikeUptoRow.domain false) (((Rows.OpenSpec.upto Rows.swimAlikeSpec).at F).post enc Try.prog Try.f6 false true false false) := by
  refine returnsInHanded_of_cond (C := Try.checked) (s := Rows.OpenSpec.upto Rows.swimAlikeSpec) (k := Rows.uptoSmall) rfl own started (by kernel_rfl) Try.func6
    (OpenSpec.witness (enc := enc) (C := Try.checked) (s := Rows.OpenSpec.upto Rows.swimAlikeSpec) (k := Rows.uptoSmall) rfl false ⟨#[], #[.slice none 0 0, .slice none 0 0, .slice none 0 0], []⟩ 8 (by kernel_rfl) (by kernel_rfl) (by kernel_rfl)
      (x := ([.nil, .nil, .nil], [], [])) (by kernel_rfl) rfl (by kernel_rfl)) ?_
  intro W base args ds gs before hval hW _ hk _
  exact contract H enc W base args ds gs before hval hW hk

set_option maxRecDepth 100000 in
theorem proved : Rows.SwimAlikeUptoSaid :=
  OpenClaim.holds_of_cond 6 Try.f6 rfl rfl rfl rfl rfl rfl rfl ⟨rfl, rfl, rfl, rfl, rfl⟩ rfl rfl rfl rfl rfl (by kernel_rfl) Try.func6 (by kernel_rfl)
    (of_decide_eq_true (by kernel_rfl)) (by unfold Func.isWrapper; first | (rw [if_pos (by decide +kernel)]; kernel_rfl) | (rw [if_neg (by decide +kernel)]; exact ⟨rfl, rfl⟩))
    (fun os started H enc _ F => lifted os started H enc F)
end Go.Proofs.Ytagfdmdajmkddaa.swimAlike
