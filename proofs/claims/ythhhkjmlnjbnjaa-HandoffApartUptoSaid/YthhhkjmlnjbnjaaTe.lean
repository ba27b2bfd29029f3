/-
  The law HandoffApart returns true for every input whose parts are together of bulk at most 1048576, and changes nothing that was there. No further condition.
-/
import Derived.Test.YthhhkjmlnjbnjaaOl
import Derived.Test.YthhhkjmlnjbnjaaFrame
namespace Go.Proofs.Ythhhkjmlnjbnjaa.handoffApart
open Go.ChangeShapes Go.WideShapes Go.ChangeAt Go.RowKit
theorem strs_of {W : World} {xs : List ByteArray} {m : Nat} (hm : m ≤ 1048576) (h : ∀ o ∈ xs, ∃ k, k + 1 ≤ m ∧ StrQ W o k) : ∀ k ∈ xs, k.size ≤ 4294967295 := fun x hx => by
  obtain ⟨k, hk, hq⟩ := h x hx
  have e : x.size + 1 ≤ k := hq
  omega

theorem own : ownKnob Try.prog.godebug = none := by kernel_rfl
theorem laid : laidOutB Try.prog = true := by kernel_rfl
set_option maxRecDepth 100000 in
set_option maxHeartbeats 1000000 in
theorem contract (H : Type) (enc : TypeId × Value → H) (W : World) (base : Nat) (args : Array Value) (ds gs : List (DataW H)) (before : List MemPlace)
    (hval : ∀ (j : Nat) t v, Try.f6.params[j]? = some t → args[j]? = some v → Value.okWide Try.prog W .any base t v)
    (hW : DataW.Whole enc Try.prog Try.f6.params.toList Rows.handoffApartSpec.vars false W args.toList ds gs before) (hk : Rows.uptoSmall H (ds ++ gs) = true) :
    Calls Try.prog 6 args W fun e W' => ∃ v, e = .returned v ∧ Rows.handoffApartSpec.post enc Try.prog Try.f6 false true false false W args v W' := by
  have hW' := hW
  obtain ⟨p, q, hA0, hV, rfl, hfz, hnd⟩ := hW
  have hA : DataW.TrodAll enc Try.prog W 0 (fun _ => true) true Try.f6.params.toList args.toList ds p := hA0
  rw [Try.params6] at hA hval
  obtain ⟨v0, vs0, d0, ds0, p0, q0, hargs, rfl, rfl, h0, r0⟩ := trodAll_cons hA
  obtain ⟨v1, vs1, d1, ds1, p1, q1, rfl, rfl, rfl, h1, r1⟩ := trodAll_cons r0
  obtain ⟨v2, vs2, d2, ds2, p2, q2, rfl, rfl, rfl, h2, r2⟩ := trodAll_cons r1
  obtain ⟨rfl, rfl, rfl⟩ := trodAll_nil r2
  obtain rfl : args = #[v0, v1, v2] := by cases args; simp_all
  obtain ⟨rfl, rfl⟩ := trodVars_none hV
  clear hA0 hA
  have hk0 : Rows.uptoBulkAll [d0, d1, d2] ≤ 1048576 := by have h : Rows.uptoBulkAll ([d0, d1, d2] ++ []) ≤ 1048576 := of_decide_eq_true hk; simpa using h
  simp only [Rows.uptoBulkAll] at hk0
  obtain ⟨s0, rfl, x0, hl0, hs0, hm0, hq0, hu0⟩ := param_slice Try.underlying22 (reads_slice (α := ByteArray) Try.underlying22 (by kernel_rfl) (reads_string Try.underlying9)) (hval 0 22 v0 rfl rfl) h0
  obtain ⟨a0, len0, c0⟩ := s0
  simp only at hl0 hs0 hu0
  subst hl0
  have hss0 := strs_of (W := W) (by omega) hq0
  obtain ⟨s1, rfl, x1, hl1, hs1, hm1, hq1, hu1⟩ := param_slice Try.underlying22 (reads_slice (α := ByteArray) Try.underlying22 (by kernel_rfl) (reads_string Try.underlying9)) (hval 1 22 v1 rfl rfl) h1
  obtain ⟨a1, len1, c1⟩ := s1
  simp only at hl1 hs1 hu1
  subst hl1
  have hss1 := strs_of (W := W) (by omega) hq1
  obtain ⟨s2, rfl, x2, hl2, hs2, hm2, hq2, hu2⟩ := param_slice Try.underlying51 (reads_slice (α := U64) Try.underlying51 (by kernel_rfl) (reads_u64 Try.underlying30)) (hval 2 51 v2 rfl rfl) h2
  obtain ⟨a2, len2, c2⟩ := s2
  simp only at hl2 hs2 hu2
  subst hl2
  refine (law_apart a0 x0 c0 a1 x1 c1 a2 x2 c2 W hs0 (by omega) hss0 hs1 (by omega) hss1 hs2 (by omega) (fun u hu => by obtain ⟨q, h1, h2⟩ := hq2 u hu; exact h2.1)).mono fun e W' he => ?_
  obtain ⟨v, rfl, rfl, hext⟩ := he
  exact ⟨_, rfl, law_post rfl laid (by rw [Try.params6]; intro t ht; simp at ht; rcases ht with rfl | rfl <;> exact ⟨by kernel_rfl, by decide +kernel⟩) hW' rfl rfl Try.underlying4 hext⟩

set_option maxRecDepth 100000 in
theorem lifted (os : Os) (started : os.Started) (H : Type) (enc : TypeId × Value → H) (F : Stop.Interp) :
    ReturnsInHanded {} Try.checked os 6 .any ((Rows.OpenSpec.upto Rows.handoffApartSpec).pre6 enc Try.prog Try.f6 Rows.handoffApartUptoRow.domain false) (((Rows.OpenSpec.upto Rows.handoffApartSpec).at F).post enc Try.prog Try.f6 false true false false) := by
  refine returnsInHanded_of_cond (C := Try.checked) (s := Rows.OpenSpec.upto Rows.handoffApartSpec) (k := Rows.uptoSmall) rfl own started (by kernel_rfl) Try.func6
    (OpenSpec.witness (enc := enc) (C := Try.checked) (s := Rows.OpenSpec.upto Rows.handoffApartSpec) (k := Rows.uptoSmall) rfl false ⟨#[], #[.slice none 0 0, .slice none 0 0, .slice none 0 0], []⟩ 8 (by kernel_rfl) (by kernel_rfl) (by kernel_rfl)
      (x := ([.nil, .nil, .nil], [], [])) (by kernel_rfl) rfl (by kernel_rfl)) ?_
  intro W base args ds gs before hval hW _ hk _
  exact contract H enc W base args ds gs before hval hW hk

set_option maxRecDepth 100000 in
theorem proved : Rows.HandoffApartUptoSaid :=
  OpenClaim.holds_of_cond 6 Try.f6 rfl rfl rfl rfl rfl rfl rfl ⟨rfl, rfl, rfl, rfl, rfl⟩ rfl rfl rfl rfl rfl (by kernel_rfl) Try.func6 (by kernel_rfl)
    (of_decide_eq_true (by kernel_rfl)) (by unfold Func.isWrapper; first | (rw [if_pos (by decide +kernel)]; kernel_rfl) | (rw [if_neg (by decide +kernel)]; exact ⟨rfl, rfl⟩))
    (fun os started H enc _ F => lifted os started H enc F)
end Go.Proofs.Ythhhkjmlnjbnjaa.handoffApart
