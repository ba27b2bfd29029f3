/-
  The law WorldBoth returns true for every input whose parts are together of bulk at most 1048576, and changes nothing that was there. No further condition.
-/
import Derived.Test.YtdlaoncjiolckaaWr
import Derived.Test.YtdlaoncjiolckaaWo
import Derived.Test.YtdlaoncjiolckaaFrame
namespace Go.Proofs.Ytdlaoncjiolckaa.worldBoth
open Go.ChangeShapes Go.WideShapes Go.ChangeAt Go.RowKit
theorem u64_of_wf {n : Int} (h : (Lit.int .u64 n).wf = true) : 0 ≤ n ∧ n ≤ 18446744073709551615 := by
  simp only [Lit.wf, Bool.and_eq_true, decide_eq_true_eq] at h
  have e1 : IntKind.u64.min = 0 := rfl
  have e2 : IntKind.u64.max = 18446744073709551615 := rfl
  rw [e1, e2] at h
  exact h
abbrev CutCQ (W : World) (x : CutC) (m : Nat) : Prop := (∃ k, k ≤ m ∧ IntQ W x.a k) ∧ ∃ k, k ≤ m ∧ IntQ W x.b k
theorem reads_CutC : Reads Try.prog 62 CutC CutCQ := by
  intro H enc W fuel cs x h
  obtain ⟨xs, n, rfl, rfl, hlen, hxs, hf⟩ := DataW.trod_array Try.underlying62 h
  obtain ⟨y0, y1, rfl⟩ : ∃ y0 y1, xs = [y0, y1] := by
    match xs, hxs with
    | [y0, y1], _ => exact ⟨y0, y1, rfl⟩
  obtain ⟨v0, e0, q0⟩ := (reads_int Try.underlying3) H enc W n _ _ (hf 0 (by decide))
  obtain ⟨v1, e1, q1⟩ := (reads_int Try.underlying3) H enc W n _ _ (hf 1 (by decide))
  have h3 : Try.prog.cellsOf 3 = 1 := by kernel_rfl
  simp only [h3, Nat.zero_mul, Nat.one_mul] at e0 e1
  replace e0 : (cs.drop 0).take 1 = cellsOf v0 := e0
  replace e1 : (cs.drop 1).take 1 = cellsOf v1 := e1
  have c0 : cs.drop 0 = (cs.drop 0).take 1 ++ cs.drop 1 := chunk cs 0 1
  have c1 : cs.drop 1 = (cs.drop 1).take 1 ++ cs.drop 2 := chunk cs 1 1
  have hl : cs.length = 2 := hlen.trans (by kernel_rfl)
  have t : cs = cs.drop 0 := rfl
  have cN : cs.drop 2 = [] := List.drop_eq_nil_of_le (by omega)
  rw [e0] at c0
  rw [e1] at c1
  rw [c0, c1, cN] at t
  refine ⟨⟨v0, v1⟩, t, ⟨_, ?_, q0⟩, ⟨_, ?_, q1⟩⟩
  all_goals (simp only [List.map_cons, List.map_nil, Rows.uptoBulk, Rows.uptoBulkAll]; omega)
theorem both_in {u : Int} {al ac : Option Addr} {xs : List MsgC} {ys : List CutC} {cl cc : Nat} {W : World} (hu : 0 ≤ u ∧ u ≤ 18446744073709551615) (hs : SlOf W al xs) (hl : xs.length ≤ 1048576) (hq : ∀ o ∈ xs, ∃ k, k + 1 ≤ 1048576 ∧ MsgCQ W o k) (hy : SlOf W ac ys) (hyl : ys.length ≤ 1048576) :
    Calls Try.prog 5 #[.int .u64 u, .slice al xs.length cl, .slice ac ys.length cc] W (Ret fun v w' => v = .bool true ∧ Ext W w') := by
  obtain ⟨ms, rfl, hms⟩ := msgs_of (by omega) xs hq
  exact law_both u hu al ms cl ac ys cc W hs (by rwa [List.length_map] at hl) (fun m hm => ⟨(hms m hm).1, (hms m hm).2.1⟩) hy hyl

theorem own : ownKnob Try.prog.godebug = none := by kernel_rfl
theorem laid : laidOutB Try.prog = true := by kernel_rfl
set_option maxRecDepth 100000 in
set_option maxHeartbeats 1000000 in
theorem contract (H : Type) (enc : TypeId × Value → H) (W : World) (base : Nat) (args : Array Value) (ds gs : List (DataW H)) (before : List MemPlace)
    (hval : ∀ (j : Nat) t v, Try.f5.params[j]? = some t → args[j]? = some v → Value.okWide Try.prog W .any base t v)
    (hW : DataW.Whole enc Try.prog Try.f5.params.toList Rows.worldBothSpec.vars false W args.toList ds gs before) (hk : Rows.uptoSmall H (ds ++ gs) = true) :
    Calls Try.prog 5 args W fun e W' => ∃ v, e = .returned v ∧ Rows.worldBothSpec.post enc Try.prog Try.f5 false true false false W args v W' := by
  have hW' := hW
  obtain ⟨p, q, hA0, hV, rfl, hfz, hnd⟩ := hW
  have hA : DataW.TrodAll enc Try.prog W 0 (fun _ => true) true Try.f5.params.toList args.toList ds p := hA0
  rw [Try.params5] at hA hval
  obtain ⟨v0, vs0, d0, ds0, p0, q0, hargs, rfl, rfl, h0, r0⟩ := trodAll_cons hA
  obtain ⟨v1, vs1, d1, ds1, p1, q1, rfl, rfl, rfl, h1, r1⟩ := trodAll_cons r0
  obtain ⟨v2, vs2, d2, ds2, p2, q2, rfl, rfl, rfl, h2, r2⟩ := trodAll_cons r1
  obtain ⟨rfl, rfl, rfl⟩ := trodAll_nil r2
  obtain rfl : args = #[v0, v1, v2] := by cases args; simp_all
  obtain ⟨rfl, rfl⟩ := trodVars_none hV
  clear hA0 hA
  have hk0 : Rows.uptoBulkAll [d0, d1, d2] ≤ 1048576 := by have h : Rows.uptoBulkAll ([d0, d1, d2] ++ []) ≤ 1048576 := of_decide_eq_true hk; simpa using h
  simp only [Rows.uptoBulkAll] at hk0
  obtain ⟨u0, rfl, rfl, rfl, hwf0⟩ := open_int Try.underlying22 (hval 0 22 v0 rfl rfl) h0
  obtain ⟨s1, rfl, x1, hl1, hs1, hm1, hq1, hu1⟩ := param_slice Try.underlying29 (reads_slice (α := MsgC) Try.underlying29 (by kernel_rfl) (reads_MsgC)) (hval 1 29 v1 rfl rfl) h1
  obtain ⟨a1, len1, c1⟩ := s1
  simp only at hl1 hs1 hu1
  subst hl1
  obtain ⟨s2, rfl, x2, hl2, hs2, hm2, hq2, hu2⟩ := param_slice Try.underlying61 (reads_slice (α := CutC) Try.underlying61 (by kernel_rfl) (reads_CutC)) (hval 2 61 v2 rfl rfl) h2
  obtain ⟨a2, len2, c2⟩ := s2
  simp only at hl2 hs2 hu2
  subst hl2
  refine (both_in (u64_of_wf hwf0) hs1 (by omega) (fun o ho => by obtain ⟨k, h1, h2⟩ := hq1 o ho; exact ⟨k, by omega, h2⟩) hs2 (by omega)).mono fun e W' he => ?_
  obtain ⟨v, rfl, rfl, hext⟩ := he
  exact ⟨_, rfl, law_post rfl laid (by rw [Try.params5]; intro t ht; simp at ht; rcases ht with rfl | rfl | rfl <;> exact ⟨by kernel_rfl, by decide +kernel⟩) hW' rfl rfl Try.underlying4 hext⟩

set_option maxRecDepth 100000 in
theorem lifted (os : Os) (started : os.Started) (H : Type) (enc : TypeId × Value → H) (F : Stop.Interp) :
    ReturnsInHanded {} Try.checked os 5 .any ((Rows.OpenSpec.upto Rows.worldBothSpec).pre6 enc Try.prog Try.f5 Rows.worldBothUptoRow.domain false) (((Rows.OpenSpec.upto Rows.worldBothSpec).at F).post enc Try.prog Try.f5 false true false false) := by
  refine returnsInHanded_of_cond (C := Try.checked) (s := Rows.OpenSpec.upto Rows.worldBothSpec) (k := Rows.uptoSmall) rfl own started (by kernel_rfl) Try.func5
    (OpenSpec.witness (enc := enc) (C := Try.checked) (s := Rows.OpenSpec.upto Rows.worldBothSpec) (k := Rows.uptoSmall) rfl false ⟨#[], #[.int .u64 0, .slice none 0 0, .slice none 0 0], []⟩ 8 (by kernel_rfl) (by kernel_rfl) (by kernel_rfl)
      (x := ([.lit (.int .u64 0), .nil, .nil], [], [])) (by kernel_rfl) rfl (by kernel_rfl)) ?_
  intro W base args ds gs before hval hW _ hk _
  exact contract H enc W base args ds gs before hval hW hk

set_option maxRecDepth 100000 in
theorem proved : Rows.WorldBothUptoSaid :=
  OpenClaim.holds_of_cond 5 Try.f5 rfl rfl rfl rfl rfl rfl rfl ⟨rfl, rfl, rfl, rfl, rfl⟩ rfl rfl rfl rfl rfl (by kernel_rfl) Try.func5 (by kernel_rfl)
    (of_decide_eq_true (by kernel_rfl)) (by unfold Func.isWrapper; first | (rw [if_pos (by decide +kernel)]; kernel_rfl) | (rw [if_neg (by decide +kernel)]; exact ⟨rfl, rfl⟩))
    (fun os started H enc _ F => lifted os started H enc F)
end Go.Proofs.Ytdlaoncjiolckaa.worldBoth
