/-
  The law SeglogLives returns true for every input whose parts are together of bulk at most 1048576, and changes nothing that was there; the card ties the variables that the library lays.
-/
import Derived.Test.YtlhepanmdchjoaaGreatDoorCards
import Derived.Test.YtlhepanmdchjoaaGreatDoorTie
import Derived.Test.YtlhepanmdchjoaaGreatDoorPkZj
import Derived.WalkKit
import Derived.ProofKit
import Derived.OpenShut
import Derived.Deep.DeepHandedRow
import Derived.Deep.DeepWitnessRowRef
import Derived.Lib.LaidIn
import Derived.Lib.LaidTab
import Derived.Stop.LaidErr
import Derived.Test.YtlhepanmdchjoaaGreatDoorPkSum
namespace Go.Proofs.YtlhepanmdchjoaaGreatDoor.seglogLives
open Go.ChangeShapes Go.WideShapes Go.ChangeAt Go.RowKit
theorem reads_byte {P : Program} {t : TypeId} (ht : P.underlying t = some (.int .u8)) : Reads P t UInt8 (fun _ _ m => 1 ≤ m) := by
  intro H enc W fuel cs x h
  obtain ⟨n, rfl, rfl, hw⟩ := DataW.trod_int ht h
  simp only [Lit.wf, Bool.and_eq_true, decide_eq_true_eq] at hw
  have e1 : IntKind.u8.min = 0 := rfl
  have e2 : IntKind.u8.max = 255 := rfl
  rw [e1, e2] at hw
  refine ⟨UInt8.ofNat n.toNat, ?_, bulk_pos _⟩
  have e3 : ((UInt8.ofNat n.toNat).toNat : Int) = n := by
    rw [UInt8.toNat_ofNat_of_lt' (by simp [UInt8.size]; omega)]
    omega
  show [Value.int .u8 n] = [Value.int .u8 ((UInt8.ofNat n.toNat).toNat : Int)]
  rw [e3]
abbrev ByteQ (_ : World) (_ : UInt8) (m : Nat) : Prop := 1 ≤ m
theorem star : "*" ++ "errors.errorString" = "*errors.errorString" := by decide +kernel
theorem laidOk {W : World} (h : laidMetH Tryz.prog Rows.seglogLivesRow.laid W) : LaidOk W := by
  have h0 : laidMet Tryz.prog Rows.seglogLivesRow.laid W := h
  have h1 := laidMet.tail h0
  have h2 := laidMet.tail h1
  have h3 := laidMet.tail h2
  have h4 := laidMet.tail h3
  have g1 : Tryz.prog.globalNamed "strconv.ErrSyntax" = some 0 := by kernel_rfl
  have g2 : Tryz.prog.globalNamed "strconv.ErrRange" = some 1 := by kernel_rfl
  have g4 : Tryz.prog.globalNamed "math/bits.deBruijn64tab" = some 4 := by kernel_rfl
  have ct : Tryz.prog.cellsOf 202 = 20 := by kernel_rfl
  have ce : Tryz.prog.cellsOf 142 = 1 := by kernel_rfl
  have cx : Tryz.prog.cellsOf 208 = 1 := by kernel_rfl
  have cs : Tryz.prog.cellsOf 9 = 1 := by kernel_rfl
  have nm : ∀ u, Tryz.prog.typeName? 3 u = some "*errors.errorString" → u = 206 := fun u h => typeName_ptr_named (nm := "errors.errorString") (by rw [star]; kernel_rfl) (by kernel_rfl) (by decide) u (by rw [star]; exact h)
  obtain ⟨a1, s1, v1, -, -, -⟩ := laid_sentinel h4 g1 (by kernel_rfl) Tryz.underlying130 nm Tryz.underlying206 Tryz.underlying208 rfl rfl Tryz.underlying9 cx cs
  obtain ⟨a2, s2, v2, -, -, -⟩ := laid_sentinel h3 g2 (by kernel_rfl) Tryz.underlying130 nm Tryz.underlying206 Tryz.underlying208 rfl rfl Tryz.underlying9 cx cs
  refine ⟨Lib.tabIs_of_head gTab (by kernel_rfl) Tryz.underlying202 Tryz.underlying142 ce ct h2, ⟨_, _, (World.var?_cell g1 v1 0).trans rfl⟩, ⟨_, _, (World.var?_cell g2 v2 0).trans rfl⟩, ?_⟩
  obtain ⟨ps, ⟨g', t', cs', fuel, p, q, hg', ht', hvar, hd, _, _⟩, _⟩ := h1
  unfold World.var? at hvar
  rw [g4] at hvar
  simp only [Option.bind_some] at hvar
  by_cases c : 4 < W.heap.size
  · exact c
  · rw [Array.getElem?_eq_none (by omega)] at hvar
    cases hvar
abbrev F7CQ (W : World) (x : F7C) (m : Nat) : Prop := (∃ k, k ≤ m ∧ StrQ W x.name k) ∧ (∃ k, k ≤ m ∧ (SlicesSQ ByteQ) W x.b k) ∧ (∃ k, k ≤ m ∧ IntQ W x.synced k)
theorem reads_F7C : Reads Tryz.prog 110 F7C F7CQ := by
  intro H enc W fuel cs x h
  obtain ⟨xs, n, rfl, rfl, hlen, hxs, hf⟩ := DataW.trod_struct Tryz.underlying110 h
  obtain ⟨y0, y1, y2, rfl⟩ : ∃ y0 y1 y2, xs = [y0, y1, y2] := by
    match xs, hxs with
    | [y0, y1, y2], _ => exact ⟨y0, y1, y2, rfl⟩
  obtain ⟨v0, e0, q0⟩ := (reads_string Tryz.underlying9) H enc W n _ _ (hf 0 _ rfl)
  replace e0 : (cs.drop 0).take (Tryz.prog.cellsOf 9) = cellsOf v0 := e0
  rw [show Tryz.prog.cellsOf 9 = 1 by kernel_rfl] at e0
  have c0 : cs.drop 0 = (cs.drop 0).take 1 ++ cs.drop 1 := chunk cs 0 1
  obtain ⟨v1, e1, q1⟩ := (reads_sliceS (α := UInt8) Tryz.underlying32 (by kernel_rfl) (reads_byte Tryz.underlying5)) H enc W n _ _ (hf 1 _ rfl)
  replace e1 : (cs.drop 1).take (Tryz.prog.cellsOf 32) = cellsOf v1 := e1
  rw [show Tryz.prog.cellsOf 32 = 1 by kernel_rfl] at e1
  have c1 : cs.drop 1 = (cs.drop 1).take 1 ++ cs.drop 2 := chunk cs 1 1
  obtain ⟨v2, e2, q2⟩ := (reads_int Tryz.underlying3) H enc W n _ _ (hf 2 _ rfl)
  replace e2 : (cs.drop 2).take (Tryz.prog.cellsOf 3) = cellsOf v2 := e2
  rw [show Tryz.prog.cellsOf 3 = 1 by kernel_rfl] at e2
  have c2 : cs.drop 2 = (cs.drop 2).take 1 ++ cs.drop 3 := chunk cs 2 1
  have hl : cs.length = 3 := hlen.trans (by kernel_rfl)
  have t : cs = cs.drop 0 := rfl
  have cN : cs.drop 3 = [] := List.drop_eq_nil_of_le (by omega)
  rw [e0] at c0
  rw [e1] at c1
  rw [e2] at c2
  rw [c0, c1, c2, cN] at t
  refine ⟨⟨v0, v1, v2⟩, t, ⟨_, ?_, q0⟩, ⟨_, ?_, q1⟩, ⟨_, ?_, q2⟩⟩
  all_goals (simp only [List.map_cons, List.map_nil, Rows.uptoBulk, Rows.uptoBulkAll]; omega)
abbrev D7CQ (W : World) (x : D7C) (m : Nat) : Prop := (∃ k, k ≤ m ∧ IntQ W x.op k) ∧ (∃ k, k ≤ m ∧ (SlicesQ ByteQ) W x.rc k) ∧ (∃ k, k ≤ m ∧ (SlicesSQ (SlicesQ ByteQ)) W x.rcs k) ∧ (∃ k, k ≤ m ∧ IntQ W x.keep k)
theorem reads_D7C : Reads Tryz.prog 76 D7C D7CQ := by
  intro H enc W fuel cs x h
  obtain ⟨xs, n, rfl, rfl, hlen, hxs, hf⟩ := DataW.trod_struct Tryz.underlying76 h
  obtain ⟨y0, y1, y2, y3, rfl⟩ : ∃ y0 y1 y2 y3, xs = [y0, y1, y2, y3] := by
    match xs, hxs with
    | [y0, y1, y2, y3], _ => exact ⟨y0, y1, y2, y3, rfl⟩
  obtain ⟨v0, e0, q0⟩ := (reads_int Tryz.underlying3) H enc W n _ _ (hf 0 _ rfl)
  replace e0 : (cs.drop 0).take (Tryz.prog.cellsOf 3) = cellsOf v0 := e0
  rw [show Tryz.prog.cellsOf 3 = 1 by kernel_rfl] at e0
  have c0 : cs.drop 0 = (cs.drop 0).take 1 ++ cs.drop 1 := chunk cs 0 1
  obtain ⟨v1, e1, q1⟩ := (reads_slice (α := UInt8) Tryz.underlying32 (by kernel_rfl) (reads_byte Tryz.underlying5)) H enc W n _ _ (hf 1 _ rfl)
  replace e1 : (cs.drop 1).take (Tryz.prog.cellsOf 32) = cellsOf v1 := e1
  rw [show Tryz.prog.cellsOf 32 = 1 by kernel_rfl] at e1
  have c1 : cs.drop 1 = (cs.drop 1).take 1 ++ cs.drop 2 := chunk cs 1 1
  obtain ⟨v2, e2, q2⟩ := (reads_sliceS (α := SH) Tryz.underlying22 (by kernel_rfl) (reads_slice (α := UInt8) Tryz.underlying32 (by kernel_rfl) (reads_byte Tryz.underlying5))) H enc W n _ _ (hf 2 _ rfl)
  replace e2 : (cs.drop 2).take (Tryz.prog.cellsOf 22) = cellsOf v2 := e2
  rw [show Tryz.prog.cellsOf 22 = 1 by kernel_rfl] at e2
  have c2 : cs.drop 2 = (cs.drop 2).take 1 ++ cs.drop 3 := chunk cs 2 1
  obtain ⟨v3, e3, q3⟩ := (reads_int Tryz.underlying3) H enc W n _ _ (hf 3 _ rfl)
  replace e3 : (cs.drop 3).take (Tryz.prog.cellsOf 3) = cellsOf v3 := e3
  rw [show Tryz.prog.cellsOf 3 = 1 by kernel_rfl] at e3
  have c3 : cs.drop 3 = (cs.drop 3).take 1 ++ cs.drop 4 := chunk cs 3 1
  have hl : cs.length = 4 := hlen.trans (by kernel_rfl)
  have t : cs = cs.drop 0 := rfl
  have cN : cs.drop 4 = [] := List.drop_eq_nil_of_le (by omega)
  rw [e0] at c0
  rw [e1] at c1
  rw [e2] at c2
  rw [e3] at c3
  rw [c0, c1, c2, c3, cN] at t
  refine ⟨⟨v0, v1, v2, v3⟩, t, ⟨_, ?_, q0⟩, ⟨_, ?_, q1⟩, ⟨_, ?_, q2⟩, ⟨_, ?_, q3⟩⟩
  all_goals (simp only [List.map_cons, List.map_nil, Rows.uptoBulk, Rows.uptoBulkAll]; omega)
theorem recs_sum {W : World} : ∀ (ss : List SH) (ks : List Nat), ks.length = ss.length → (∀ (i : Nat) (s : SH) (k : Nat), ss[i]? = some s → ks[i]? = some k → SlicesQ ByteQ W s k) → ∃ rs : List RB, ss = rs.map RB.h ∧ RecsQ W rs ∧ (∀ r ∈ rs, r.b.length ≤ ks.sum) ∧ ((rs.map RB.b).flatMap frameB).length ≤ 13 * ks.sum ∨ 1073741824 < ks.sum
  | [], ks, h, _ => ⟨[], .inl ⟨rfl, (fun r h => absurd h (by simp)), (fun r h => absurd h (by simp)), by simp⟩⟩
  | s :: ss, [], h, _ => by simp at h
  | s :: ss, k :: ks, h, hq => by
    obtain ⟨rs, hr⟩ := recs_sum ss ks (by simpa using h) fun i x j h1 h2 => hq (i + 1) x j (by simpa using h1) (by simpa using h2)
    obtain ⟨b, b1, b2, b3, b4, b5⟩ := hq 0 s k rfl rfl
    by_cases hbig : 1073741824 < (k :: ks).sum
    · exact ⟨[], .inr hbig⟩
    · rw [List.sum_cons] at hbig ⊢
      rcases hr with ⟨e, h1, h2, h3⟩ | hr
      · obtain ⟨sa, sn, sc⟩ := s
        simp only at b1 b2
        subst b1
        refine ⟨⟨sa, sc, b⟩ :: rs, .inl ⟨by rw [e]; rfl, fun r hr => ?_, fun r hr => ?_, ?_⟩⟩
        · rcases List.mem_cons.1 hr with rfl | hr
          · exact b2
          · exact h1 r hr
        · rcases List.mem_cons.1 hr with rfl | hr
          · show b.length ≤ _
            omega
          · have := h2 r hr; omega
        · have hf := frameB_len b (by omega)
          rw [List.map_cons, List.flatMap_cons, List.length_append]
          show (frameB b).length + _ ≤ _
          omega
      · omega
theorem d7s_of {W : World} {ks : List D7C} {m : Nat} (hm : m ≤ 1048576) (h : ∀ k ∈ ks, ∃ j, j + 1 ≤ m ∧ D7CQ W k j) : D7s W ks := fun k hk => by
  obtain ⟨j, hj, -, ⟨k1, g1, b, b1, b2, b3, b4, b5⟩, ⟨k2, g2, ss, ⟨c1, c2, c3, c4, c5⟩, c6, js, c7, c8, c9⟩, -⟩ := h k hk
  obtain ⟨rs, ⟨rfl, r1, r2, r3⟩ | hbig⟩ := recs_sum ss js c7 c9
  · have hl : (rs.map RB.h).length = rs.length := List.length_map ..
    have hn := frameB_len [] (by decide)
    simp only [List.length_nil] at hn
    refine ⟨b, rs, b1, b2, by omega, c1, c2, by omega, r1, fun r hr => by have := r2 r hr; omega, ?_⟩
    rw [allB_all, List.length_append]
    omega
  · omega
theorem f7s_of {W : World} {ys : List F7C} {m : Nat} (hm : m ≤ 1048576) (h : ∀ y ∈ ys, ∃ j, j + 1 ≤ m ∧ F7CQ W y j) : F7s W ys := fun y hy => by
  obtain ⟨j, hj, ⟨k1, g1, g2⟩, ⟨k2, g3, b, ⟨b1, b2, b3, b4, b5⟩, b6, -⟩, -⟩ := h y hy
  have e1 : y.name.size + 1 ≤ k1 := g2
  exact ⟨b, b1, b6, b2, by omega, by omega⟩
theorem own : ownKnob Tryz.prog.godebug = none := by kernel_rfl
theorem laid : laidOutB Tryz.prog = true := by kernel_rfl
set_option maxRecDepth 100000 in
set_option maxHeartbeats 1000000 in
theorem contract (H : Type) (enc : TypeId × Value → H) (W : World) (base : Nat) (args : Array Value) (ds gs : List (DataW H)) (before : List MemPlace)
    (hval : ∀ (j : Nat) t v, Tryz.f7.params[j]? = some t → args[j]? = some v → Value.okWide Tryz.prog W .any base t v)
    (hW : DataW.Whole enc Tryz.prog Tryz.f7.params.toList Rows.seglogLivesSpec.vars false W args.toList ds gs before) (hk : Rows.uptoSmall H (ds ++ gs) = true) (hL : laidMetH Tryz.prog Rows.seglogLivesRow.laid W) :
    Calls Tryz.prog 7 args W fun e W' => ∃ v, e = .returned v ∧ Rows.seglogLivesSpec.post enc Tryz.prog Tryz.f7 false true false false W args v W' := by
  have hW' := hW
  obtain ⟨p, q, hA0, hV, rfl, hfz, hnd⟩ := hW
  have hA : DataW.TrodAll enc Tryz.prog W 0 (fun _ => true) true Tryz.f7.params.toList args.toList ds p := hA0
  rw [Tryz.params7] at hA hval
  obtain ⟨v0, vs0, d0, ds0, p0, q0, hargs, rfl, rfl, h0, r0⟩ := trodAll_cons hA
  obtain ⟨v1, vs1, d1, ds1, p1, q1, rfl, rfl, rfl, h1, r1⟩ := trodAll_cons r0
  obtain ⟨v2, vs2, d2, ds2, p2, q2, rfl, rfl, rfl, h2, r2⟩ := trodAll_cons r1
  obtain ⟨rfl, rfl, rfl⟩ := trodAll_nil r2
  obtain rfl : args = #[v0, v1, v2] := by cases args; simp_all
  obtain ⟨rfl, rfl⟩ := trodVars_none hV
  clear hA0 hA
  have hk0 : Rows.uptoBulkAll [d0, d1, d2] ≤ 1048576 := by have h : Rows.uptoBulkAll ([d0, d1, d2] ++ []) ≤ 1048576 := of_decide_eq_true hk; simpa using h
  simp only [Rows.uptoBulkAll] at hk0
  obtain ⟨z0, rfl, hz0⟩ := param_int Tryz.underlying3 (reads_int Tryz.underlying3) h0 (hval 0 3 v0 rfl rfl)
  obtain ⟨s1, rfl, x1, hl1, hs1, hm1, hq1, hu1⟩ := param_slice Tryz.underlying66 (reads_slice (α := F7C) Tryz.underlying66 (by kernel_rfl) (reads_F7C)) (hval 1 66 v1 rfl rfl) h1
  obtain ⟨a1, len1, c1⟩ := s1
  simp only at hl1 hs1 hu1
  subst hl1
  have hF1 := f7s_of (by omega) hq1
  obtain ⟨s2, rfl, x2, hl2, hs2, hm2, hq2, hu2⟩ := param_slice Tryz.underlying67 (reads_slice (α := D7C) Tryz.underlying67 (by kernel_rfl) (reads_D7C)) (hval 2 67 v2 rfl rfl) h2
  obtain ⟨a2, len2, c2⟩ := s2
  simp only at hl2 hs2 hu2
  subst hl2
  have hK2 := d7s_of (by omega) hq2
  refine (law_lives z0 a1 x1 c1 a2 x2 c2 W hs1 hs2 (by omega) (by omega) hF1 hK2 (laidOk hL)).mono fun e W' he => ?_
  obtain ⟨v, rfl, rfl, hext⟩ := he
  exact ⟨_, rfl, law_post rfl laid (by rw [Tryz.params7]; intro t ht; simp at ht; rcases ht with rfl | rfl | rfl <;> exact ⟨by kernel_rfl, by decide +kernel⟩) hW' rfl rfl Tryz.underlying4 hext⟩
/-- a world for the witness: the settled one, the variables holding what their initialisers lay -/
noncomputable def laidWorld (os : Os) : World :=
  let N := (World.settled Tryz.prog os).heap.size
  let w0 := World.holding Tryz.prog os ⟨#[.cells #[.string ⟨#[105, 110, 118, 97, 108, 105, 100, 32, 115, 121, 110, 116, 97, 120]⟩] 208, .cells #[.string ⟨#[118, 97, 108, 117, 101, 32, 111, 117, 116, 32, 111, 102, 32, 114, 97, 110, 103, 101]⟩] 208], #[], []⟩
  let put (h : Array Obj) (g : Nat) (cs : Array Value) : Array Obj := h.modify g fun
    | .cells _ t frozen => .cells cs t frozen
    | o => o
  let h0 := put (put w0.heap 0 #[.iface 206 (.pointer (some ⟨N, 0, none⟩))]) 1 #[.iface 206 (.pointer (some ⟨N + 1, 0, none⟩))]
  let h1 := put h0 2 #[.int .u64 1, .int .u64 10, .int .u64 100, .int .u64 1000, .int .u64 10000, .int .u64 100000, .int .u64 1000000, .int .u64 10000000, .int .u64 100000000, .int .u64 1000000000, .int .u64 10000000000, .int .u64 100000000000, .int .u64 1000000000000, .int .u64 10000000000000, .int .u64 100000000000000, .int .u64 1000000000000000, .int .u64 10000000000000000, .int .u64 100000000000000000, .int .u64 1000000000000000000, .int .u64 10000000000000000000]
  let h2 := put h1 3 #[.int .u8 0, .int .u8 1, .int .u8 28, .int .u8 2, .int .u8 29, .int .u8 14, .int .u8 24, .int .u8 3, .int .u8 30, .int .u8 22, .int .u8 20, .int .u8 15, .int .u8 25, .int .u8 17, .int .u8 4, .int .u8 8, .int .u8 31, .int .u8 27, .int .u8 13, .int .u8 23, .int .u8 21, .int .u8 19, .int .u8 16, .int .u8 7, .int .u8 26, .int .u8 12, .int .u8 18, .int .u8 6, .int .u8 11, .int .u8 5, .int .u8 10, .int .u8 9]
  let h3 := put h2 4 #[.int .u8 0, .int .u8 1, .int .u8 56, .int .u8 2, .int .u8 57, .int .u8 49, .int .u8 28, .int .u8 3, .int .u8 61, .int .u8 58, .int .u8 42, .int .u8 50, .int .u8 38, .int .u8 29, .int .u8 17, .int .u8 4, .int .u8 62, .int .u8 47, .int .u8 59, .int .u8 36, .int .u8 45, .int .u8 43, .int .u8 51, .int .u8 22, .int .u8 53, .int .u8 39, .int .u8 33, .int .u8 30, .int .u8 24, .int .u8 18, .int .u8 12, .int .u8 5, .int .u8 63, .int .u8 55, .int .u8 48, .int .u8 27, .int .u8 60, .int .u8 41, .int .u8 37, .int .u8 16, .int .u8 46, .int .u8 35, .int .u8 44, .int .u8 21, .int .u8 52, .int .u8 32, .int .u8 23, .int .u8 11, .int .u8 54, .int .u8 26, .int .u8 40, .int .u8 15, .int .u8 34, .int .u8 20, .int .u8 31, .int .u8 10, .int .u8 25, .int .u8 14, .int .u8 19, .int .u8 9, .int .u8 13, .int .u8 8, .int .u8 7, .int .u8 6]
  { w0 with heap := h3 }
noncomputable abbrev N0 : Nat := (World.settled Tryz.prog default).heap.size
set_option maxRecDepth 1000000 in
theorem laid_met (os : Os) : laidMet Tryz.prog Rows.seglogLivesUptoRow.laid ((laidWorld os).forCall (fun _ _ => 0) ⟨#[], #[.int .i64 0, .slice none 0 0, .slice none 0 0], []⟩).memory :=
  (LaidIn.of_run (l := Rows.seglogLivesUptoRow.laid) [3, 4, 2, 1, N0 + 1, 0, N0] 8 (by kernel_rfl) (by kernel_rfl) (by kernel_rfl) (by kernel_rfl)).met
theorem reads (os : Os) {H : Type} (enc : TypeId × Value → H) : ∃ places, DataW.whole enc Tryz.prog ((laidWorld os).forCall (fun _ _ => 0) ⟨#[], #[.int .i64 0, .slice none 0 0, .slice none 0 0], []⟩).memory Tryz.f7.params.toList Rows.seglogLivesSpec.vars false (#[.int .i64 0, .slice none 0 0, .slice none 0 0] : Array Value).toList 8 = some ([.lit (.int .i64 0), .nil, .nil], [], places) :=
  ⟨[], by kernel_rfl⟩
set_option maxRecDepth 100000 in
theorem lifted (os : Os) (started : os.Started) (H : Type) (enc : TypeId × Value → H) (F : Stop.Interp) :
    ReturnsInHanded {} Tryz.checked os 7 .any ((Rows.OpenSpec.upto Rows.seglogLivesSpec).preRow enc Tryz.prog Tryz.f7 Rows.seglogLivesUptoRow.domain false Rows.seglogLivesUptoRow.laid) (((Rows.OpenSpec.upto Rows.seglogLivesSpec).at F).post enc Tryz.prog Tryz.f7 false true false false) := by
  obtain ⟨places, hx⟩ := reads os enc
  refine returnsInHanded_of_row (C := Tryz.checked) (s := Rows.OpenSpec.upto Rows.seglogLivesSpec) own started (by kernel_rfl) Tryz.func7
    (witness_row_atRef (enc := enc) (C := Tryz.checked) false (laidWorld os) #[.int .i64 0, .slice none 0 0, .slice none 0 0] rfl (by kernel_rfl) (by kernel_rfl) (by kernel_rfl)
      (OpenSpec.preRow_of_cond 8 hx (by kernel_rfl) (fun k hk => by cases hk; kernel_rfl) (by kernel_rfl) (laid_met os))) ?_
  intro W base args ds gs before hval hW _ hcond _ hL _ _
  exact contract H enc W base args ds gs before hval hW (hcond _ rfl) hL
set_option maxRecDepth 100000 in
theorem said : Rows.SeglogLivesUptoSaid :=
  OpenClaim.holds_of_cond 7 Tryz.f7 rfl rfl rfl rfl rfl rfl rfl ⟨rfl, rfl, rfl, rfl, rfl⟩ rfl rfl rfl rfl rfl (by kernel_rfl) Tryz.func7 (by kernel_rfl)
    (of_decide_eq_true (by kernel_rfl)) (by unfold Func.isWrapper; first | (rw [if_pos (by decide +kernel)]; kernel_rfl) | (rw [if_neg (by decide +kernel)]; exact ⟨rfl, rfl⟩))
    (fun os started H enc _ F => by rw [OpenClaim.pre_eq_preRow]; exact lifted os started H enc F)
theorem plain (f : FuncId) (fn : Func) (hf : Tryz.pinned.checked.prog.funcNamed "trolley/trolleylaw07.SeglogLives" = some f) (hfn : Tryz.pinned.checked.prog.funcs[f]? = some fn) :
    true = Tryz.pinned.checked.prog.looks [] ∧ ∀ (j : Nat) t, fn.params[j]? = some t → Tryz.pinned.checked.prog.wantsStandIn t = false := by
  obtain rfl : f = 7 := Option.some.inj ((show Tryz.prog.funcNamed "trolley/trolleylaw07.SeglogLives" = some 7 by kernel_rfl).symm.trans hf) |>.symm
  obtain rfl : fn = Tryz.f7 := (Option.some.inj (Tryz.func7.symm.trans hfn)).symm
  refine ⟨by kernel_rfl, fun j t ht => ?_⟩
  rw [Tryz.params7] at ht
  have h9 := Array.mem_of_getElem? ht
  simp at h9
  show Tryz.prog.wantsStandIn t = false
  rcases h9 with rfl | rfl | rfl <;> kernel_rfl
/-- the law's card -/
theorem proved : Rows.SeglogLivesUptoCardSaid :=
  Claim7.holds_tied_plain_at .later [] _ _ _ _ said (fun _ h => by cases h) (by kernel_rfl) (fun _ h => by cases h) seglogLivesUpto_row_tie rfl ⟨rfl, rfl⟩ (by kernel_rfl) rfl plain (by kernel_rfl)
end Go.Proofs.YtlhepanmdchjoaaGreatDoor.seglogLives
