/-
  The law SeglogKeeps returns true for every input whose parts are together of bulk at most 1048576, and changes nothing that was there; the card ties the variables that the library lays.
-/
import Derived.Test.YtlhepanmdchjoaaGreatDoorCards
import Derived.Test.YtlhepanmdchjoaaGreatDoorTie
import Derived.Test.YtlhepanmdchjoaaGreatDoorYl
import Derived.WalkKit
import Derived.ProofKit
import Derived.OpenShut
import Derived.Deep.DeepHandedRow
import Derived.Deep.DeepWitnessRowRef
import Derived.Lib.LaidIn
import Derived.Lib.LaidTab
import Derived.Stop.LaidErr
import Derived.Test.YtlhepanmdchjoaaGreatDoorFrame
namespace Go.Proofs.YtlhepanmdchjoaaGreatDoor.seglogKeeps
open Go.ChangeShapes Go.WideShapes Go.ChangeAt Go.RowKit
theorem reads_byte {P : Program} {t : TypeId} (ht : P.underlying t = some (.int .u8)) : Reads P t UInt8 (fun _ _ m => 1 ≤ m) := by
  intro H enc W fuel cs x h
  obtain ⟨n, rfl, rfl, hw⟩ := DataW.trod_int ht h
  simp only [Lit.wf, Bool.and_eq_true, decide_eq_true_eq] at hw
  have e1 : IntKind.u8.min = 0 := rfl
  have e2 : IntKind.u8.max = 255 := rfl
  rw [e1, e2] at hw
  refine ⟨UInt8.ofNat n.toNat, ?_, bulk_pos _⟩
  have e3 : ((UInt8.ofNat n.toNat).toNat : Int) = n := by
    rw [UInt8.toNat_ofNat_of_lt' (by simp [UInt8.size]; omega)]
    omega
  show [Value.int .u8 n] = [Value.int .u8 ((UInt8.ofNat n.toNat).toNat : Int)]
  rw [e3]
abbrev ByteQ (_ : World) (_ : UInt8) (m : Nat) : Prop := 1 ≤ m
theorem recs_of {W : World} {ss : List SH} {m : Nat} (h : ∀ s ∈ ss, ∃ k, k + 1 ≤ m ∧ (SlicesQ ByteQ) W s k) : ∃ rs : List RB, ss = rs.map RB.h ∧ RecsQ W rs := by
  induction ss with
  | nil => exact ⟨[], rfl, fun r h => absurd h (by simp)⟩
  | cons s l ih =>
    obtain ⟨rs, e, h1⟩ := ih fun t ht => h t (List.mem_cons_of_mem _ ht)
    obtain ⟨k, hk, b, b1, b2, b3, b4, b5⟩ := h s (by simp)
    obtain ⟨sa, sn, sc⟩ := s
    simp only at b1 b2
    subst b1
    exact ⟨⟨sa, sc, b⟩ :: rs, by rw [e]; rfl, fun r hr => by
      rcases List.mem_cons.1 hr with rfl | hr
      · exact b2
      · exact h1 r hr⟩
theorem star : "*" ++ "errors.errorString" = "*errors.errorString" := by decide +kernel
theorem laidOk {W : World} (h : laidMetH Tryz.prog Rows.seglogKeepsRow.laid W) : LaidOk W := by
  have h0 : laidMet Tryz.prog Rows.seglogKeepsRow.laid W := h
  have h1 := laidMet.tail h0
  have h2 := laidMet.tail h1
  have h3 := laidMet.tail h2
  have h4 := laidMet.tail h3
  have g1 : Tryz.prog.globalNamed "strconv.ErrSyntax" = some 0 := by kernel_rfl
  have g2 : Tryz.prog.globalNamed "strconv.ErrRange" = some 1 := by kernel_rfl
  have g4 : Tryz.prog.globalNamed "math/bits.deBruijn64tab" = some 4 := by kernel_rfl
  have ct : Tryz.prog.cellsOf 202 = 20 := by kernel_rfl
  have ce : Tryz.prog.cellsOf 142 = 1 := by kernel_rfl
  have cx : Tryz.prog.cellsOf 208 = 1 := by kernel_rfl
  have cs : Tryz.prog.cellsOf 9 = 1 := by kernel_rfl
  have nm : ∀ u, Tryz.prog.typeName? 3 u = some "*errors.errorString" → u = 206 := fun u h => typeName_ptr_named (nm := "errors.errorString") (by rw [star]; kernel_rfl) (by kernel_rfl) (by decide) u (by rw [star]; exact h)
  obtain ⟨a1, s1, v1, -, -, -⟩ := laid_sentinel h4 g1 (by kernel_rfl) Tryz.underlying130 nm Tryz.underlying206 Tryz.underlying208 rfl rfl Tryz.underlying9 cx cs
  obtain ⟨a2, s2, v2, -, -, -⟩ := laid_sentinel h3 g2 (by kernel_rfl) Tryz.underlying130 nm Tryz.underlying206 Tryz.underlying208 rfl rfl Tryz.underlying9 cx cs
  refine ⟨Lib.tabIs_of_head gTab (by kernel_rfl) Tryz.underlying202 Tryz.underlying142 ce ct h2, ⟨_, _, (World.var?_cell g1 v1 0).trans rfl⟩, ⟨_, _, (World.var?_cell g2 v2 0).trans rfl⟩, ?_⟩
  obtain ⟨ps, ⟨g', t', cs', fuel, p, q, hg', ht', hvar, hd, _, _⟩, _⟩ := h1
  unfold World.var? at hvar
  rw [g4] at hvar
  simp only [Option.bind_some] at hvar
  by_cases c : 4 < W.heap.size
  · exact c
  · rw [Array.getElem?_eq_none (by omega)] at hvar
    cases hvar

theorem own : ownKnob Tryz.prog.godebug = none := by kernel_rfl
theorem laid : laidOutB Tryz.prog = true := by kernel_rfl
set_option maxRecDepth 100000 in
set_option maxHeartbeats 1000000 in
theorem contract (H : Type) (enc : TypeId × Value → H) (W : World) (base : Nat) (args : Array Value) (ds gs : List (DataW H)) (before : List MemPlace)
    (hval : ∀ (j : Nat) t v, Tryz.f5.params[j]? = some t → args[j]? = some v → Value.okWide Tryz.prog W .any base t v)
    (hW : DataW.Whole enc Tryz.prog Tryz.f5.params.toList Rows.seglogKeepsSpec.vars false W args.toList ds gs before) (hk : Rows.uptoSmall H (ds ++ gs) = true) (hL : laidMetH Tryz.prog Rows.seglogKeepsRow.laid W) :
    Calls Tryz.prog 5 args W fun e W' => ∃ v, e = .returned v ∧ Rows.seglogKeepsSpec.post enc Tryz.prog Tryz.f5 false true false false W args v W' := by
  have hW' := hW
  obtain ⟨p, q, hA0, hV, rfl, hfz, hnd⟩ := hW
  have hA : DataW.TrodAll enc Tryz.prog W 0 (fun _ => true) true Tryz.f5.params.toList args.toList ds p := hA0
  rw [Tryz.params5] at hA hval
  obtain ⟨v0, vs0, d0, ds0, p0, q0, hargs, rfl, rfl, h0, r0⟩ := trodAll_cons hA
  obtain ⟨v1, vs1, d1, ds1, p1, q1, rfl, rfl, rfl, h1, r1⟩ := trodAll_cons r0
  obtain ⟨v2, vs2, d2, ds2, p2, q2, rfl, rfl, rfl, h2, r2⟩ := trodAll_cons r1
  obtain ⟨rfl, rfl, rfl⟩ := trodAll_nil r2
  obtain rfl : args = #[v0, v1, v2] := by cases args; simp_all
  obtain ⟨rfl, rfl⟩ := trodVars_none hV
  clear hA0 hA
  have hk0 : Rows.uptoBulkAll [d0, d1, d2] ≤ 1048576 := by have h : Rows.uptoBulkAll ([d0, d1, d2] ++ []) ≤ 1048576 := of_decide_eq_true hk; simpa using h
  simp only [Rows.uptoBulkAll] at hk0
  obtain ⟨s0, rfl, x0, hl0, hs0, hm0, hq0, hu0⟩ := param_slice Tryz.underlying22 (reads_slice (α := SH) Tryz.underlying22 (by kernel_rfl) (reads_slice (α := UInt8) Tryz.underlying32 (by kernel_rfl) (reads_byte Tryz.underlying5))) (hval 0 22 v0 rfl rfl) h0
  obtain ⟨a0, len0, c0⟩ := s0
  simp only at hl0 hs0 hu0
  subst hl0
  obtain ⟨rs0, rfl, hQ0⟩ := recs_of hq0
  have hrl0 : (rs0.map RB.h).length = rs0.length := List.length_map ..
  obtain ⟨s1, rfl, x1, hl1, hs1, hm1, hq1, hu1⟩ := param_slice Tryz.underlying22 (reads_slice (α := SH) Tryz.underlying22 (by kernel_rfl) (reads_slice (α := UInt8) Tryz.underlying32 (by kernel_rfl) (reads_byte Tryz.underlying5))) (hval 1 22 v1 rfl rfl) h1
  obtain ⟨a1, len1, c1⟩ := s1
  simp only at hl1 hs1 hu1
  subst hl1
  obtain ⟨rs1, rfl, hQ1⟩ := recs_of hq1
  have hrl1 : (rs1.map RB.h).length = rs1.length := List.length_map ..
  obtain ⟨z2, rfl, hz2⟩ := param_int Tryz.underlying3 (reads_int Tryz.underlying3) h2 (hval 2 3 v2 rfl rfl)
  refine (law_keeps a0 rs0 c0 a1 rs1 c1 z2 W hs0 hs1 (by omega) (by omega) hQ0 hQ1 (laidOk hL)).mono fun e W' he => ?_
  obtain ⟨v, rfl, rfl, hext⟩ := he
  exact ⟨_, rfl, law_post rfl laid (by rw [Tryz.params5]; intro t ht; simp at ht; rcases ht with rfl | rfl <;> exact ⟨by kernel_rfl, by decide +kernel⟩) hW' rfl rfl Tryz.underlying4 hext⟩

/-- a world for the witness: the settled one, the variables holding what their initialisers lay -/
noncomputable def laidWorld (os : Os) : World :=
  let N := (World.settled Tryz.prog os).heap.size
  let w0 := World.holding Tryz.prog os ⟨#[.cells #[.string ⟨#[105, 110, 118, 97, 108, 105, 100, 32, 115, 121, 110, 116, 97, 120]⟩] 208, .cells #[.string ⟨#[118, 97, 108, 117, 101, 32, 111, 117, 116, 32, 111, 102, 32, 114, 97, 110, 103, 101]⟩] 208], #[], []⟩
  let put (h : Array Obj) (g : Nat) (cs : Array Value) : Array Obj := h.modify g fun
    | .cells _ t frozen => .cells cs t frozen
    | o => o
  let h0 := put (put w0.heap 0 #[.iface 206 (.pointer (some ⟨N, 0, none⟩))]) 1 #[.iface 206 (.pointer (some ⟨N + 1, 0, none⟩))]
  let h1 := put h0 2 #[.int .u64 1, .int .u64 10, .int .u64 100, .int .u64 1000, .int .u64 10000, .int .u64 100000, .int .u64 1000000, .int .u64 10000000, .int .u64 100000000, .int .u64 1000000000, .int .u64 10000000000, .int .u64 100000000000, .int .u64 1000000000000, .int .u64 10000000000000, .int .u64 100000000000000, .int .u64 1000000000000000, .int .u64 10000000000000000, .int .u64 100000000000000000, .int .u64 1000000000000000000, .int .u64 10000000000000000000]
  let h2 := put h1 3 #[.int .u8 0, .int .u8 1, .int .u8 28, .int .u8 2, .int .u8 29, .int .u8 14, .int .u8 24, .int .u8 3, .int .u8 30, .int .u8 22, .int .u8 20, .int .u8 15, .int .u8 25, .int .u8 17, .int .u8 4, .int .u8 8, .int .u8 31, .int .u8 27, .int .u8 13, .int .u8 23, .int .u8 21, .int .u8 19, .int .u8 16, .int .u8 7, .int .u8 26, .int .u8 12, .int .u8 18, .int .u8 6, .int .u8 11, .int .u8 5, .int .u8 10, .int .u8 9]
  let h3 := put h2 4 #[.int .u8 0, .int .u8 1, .int .u8 56, .int .u8 2, .int .u8 57, .int .u8 49, .int .u8 28, .int .u8 3, .int .u8 61, .int .u8 58, .int .u8 42, .int .u8 50, .int .u8 38, .int .u8 29, .int .u8 17, .int .u8 4, .int .u8 62, .int .u8 47, .int .u8 59, .int .u8 36, .int .u8 45, .int .u8 43, .int .u8 51, .int .u8 22, .int .u8 53, .int .u8 39, .int .u8 33, .int .u8 30, .int .u8 24, .int .u8 18, .int .u8 12, .int .u8 5, .int .u8 63, .int .u8 55, .int .u8 48, .int .u8 27, .int .u8 60, .int .u8 41, .int .u8 37, .int .u8 16, .int .u8 46, .int .u8 35, .int .u8 44, .int .u8 21, .int .u8 52, .int .u8 32, .int .u8 23, .int .u8 11, .int .u8 54, .int .u8 26, .int .u8 40, .int .u8 15, .int .u8 34, .int .u8 20, .int .u8 31, .int .u8 10, .int .u8 25, .int .u8 14, .int .u8 19, .int .u8 9, .int .u8 13, .int .u8 8, .int .u8 7, .int .u8 6]
  { w0 with heap := h3 }
noncomputable abbrev N0 : Nat := (World.settled Tryz.prog default).heap.size
set_option maxRecDepth 1000000 in
theorem laid_met (os : Os) : laidMet Tryz.prog Rows.seglogKeepsUptoRow.laid ((laidWorld os).forCall (fun _ _ => 0) ⟨#[], #[.slice none 0 0, .slice none 0 0, .int .i64 0], []⟩).memory :=
  (LaidIn.of_run (l := Rows.seglogKeepsUptoRow.laid) [3, 4, 2, 1, N0 + 1, 0, N0] 8 (by kernel_rfl) (by kernel_rfl) (by kernel_rfl) (by kernel_rfl)).met
theorem reads (os : Os) {H : Type} (enc : TypeId × Value → H) : ∃ places, DataW.whole enc Tryz.prog ((laidWorld os).forCall (fun _ _ => 0) ⟨#[], #[.slice none 0 0, .slice none 0 0, .int .i64 0], []⟩).memory Tryz.f5.params.toList Rows.seglogKeepsSpec.vars false (#[.slice none 0 0, .slice none 0 0, .int .i64 0] : Array Value).toList 8 = some ([.nil, .nil, .lit (.int .i64 0)], [], places) :=
  ⟨[], by kernel_rfl⟩

set_option maxRecDepth 100000 in
theorem lifted (os : Os) (started : os.Started) (H : Type) (enc : TypeId × Value → H) (F : Stop.Interp) :
    ReturnsInHanded {} Tryz.checked os 5 .any ((Rows.OpenSpec.upto Rows.seglogKeepsSpec).preRow enc Tryz.prog Tryz.f5 Rows.seglogKeepsUptoRow.domain false Rows.seglogKeepsUptoRow.laid) (((Rows.OpenSpec.upto Rows.seglogKeepsSpec).at F).post enc Tryz.prog Tryz.f5 false true false false) := by
  obtain ⟨places, hx⟩ := reads os enc
  refine returnsInHanded_of_row (C := Tryz.checked) (s := Rows.OpenSpec.upto Rows.seglogKeepsSpec) own started (by kernel_rfl) Tryz.func5
    (witness_row_atRef (enc := enc) (C := Tryz.checked) false (laidWorld os) #[.slice none 0 0, .slice none 0 0, .int .i64 0] rfl (by kernel_rfl) (by kernel_rfl) (by kernel_rfl)
      (OpenSpec.preRow_of_cond 8 hx (by kernel_rfl) (fun k hk => by cases hk; kernel_rfl) (by kernel_rfl) (laid_met os))) ?_
  intro W base args ds gs before hval hW _ hcond _ hL _ _
  exact contract H enc W base args ds gs before hval hW (hcond _ rfl) hL

set_option maxRecDepth 100000 in
theorem said : Rows.SeglogKeepsUptoSaid :=
  OpenClaim.holds_of_cond 5 Tryz.f5 rfl rfl rfl rfl rfl rfl rfl ⟨rfl, rfl, rfl, rfl, rfl⟩ rfl rfl rfl rfl rfl (by kernel_rfl) Tryz.func5 (by kernel_rfl)
    (of_decide_eq_true (by kernel_rfl)) (by unfold Func.isWrapper; first | (rw [if_pos (by decide +kernel)]; kernel_rfl) | (rw [if_neg (by decide +kernel)]; exact ⟨rfl, rfl⟩))
    (fun os started H enc _ F => by rw [OpenClaim.pre_eq_preRow]; exact lifted os started H enc F)

theorem plain (f : FuncId) (fn : Func) (hf : Tryz.pinned.checked.prog.funcNamed "trolley/trolleylaw07.SeglogKeeps" = some f) (hfn : Tryz.pinned.checked.prog.funcs[f]? = some fn) :
    true = Tryz.pinned.checked.prog.looks [] ∧ ∀ (j : Nat) t, fn.params[j]? = some t → Tryz.pinned.checked.prog.wantsStandIn t = false := by
  obtain rfl : f = 5 := Option.some.inj ((show Tryz.prog.funcNamed "trolley/trolleylaw07.SeglogKeeps" = some 5 by kernel_rfl).symm.trans hf) |>.symm
  obtain rfl : fn = Tryz.f5 := (Option.some.inj (Tryz.func5.symm.trans hfn)).symm
  refine ⟨by kernel_rfl, fun j t ht => ?_⟩
  rw [Tryz.params5] at ht
  have h9 := Array.mem_of_getElem? ht
  simp at h9
  show Tryz.prog.wantsStandIn t = false
  rcases h9 with rfl | rfl <;> kernel_rfl

/-- the law's card -/
theorem proved : Rows.SeglogKeepsUptoCardSaid :=
  Claim7.holds_tied_plain_at .later [] _ _ _ _ said (fun _ h => by cases h) (by kernel_rfl) (fun _ h => by cases h) seglogKeepsUpto_row_tie rfl ⟨rfl, rfl⟩ (by kernel_rfl) rfl plain (by kernel_rfl)
end Go.Proofs.YtlhepanmdchjoaaGreatDoor.seglogKeeps
