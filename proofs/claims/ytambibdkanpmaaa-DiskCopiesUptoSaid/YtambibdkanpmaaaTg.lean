/-
  The law DiskCopies returns true for every input whose parts are together of bulk at most 1048576, and changes nothing that was there. No further condition.
-/
import Derived.Test.YtambibdkanpmaaaDx
import Derived.Test.YtambibdkanpmaaaFrame
namespace Go.Proofs.Ytambibdkanpmaaa.diskCopies
open Go.ChangeShapes Go.WideShapes Go.ChangeAt Go.RowKit
theorem reads_byte {P : Program} {t : TypeId} (ht : P.underlying t = some (.int .u8)) : Reads P t UInt8 (fun _ _ m => 1 ≤ m) := by
  intro H enc W fuel cs x h
  obtain ⟨n, rfl, rfl, hw⟩ := DataW.trod_int ht h
  simp only [Lit.wf, Bool.and_eq_true, decide_eq_true_eq] at hw
  have e1 : IntKind.u8.min = 0 := rfl
  have e2 : IntKind.u8.max = 255 := rfl
  rw [e1, e2] at hw
  refine ⟨UInt8.ofNat n.toNat, ?_, bulk_pos _⟩
  have e3 : ((UInt8.ofNat n.toNat).toNat : Int) = n := by
    rw [UInt8.toNat_ofNat_of_lt' (by simp [UInt8.size]; omega)]
    omega
  show [Value.int .u8 n] = [Value.int .u8 ((UInt8.ofNat n.toNat).toNat : Int)]
  rw [e3]
abbrev ByteQ (_ : World) (_ : UInt8) (m : Nat) : Prop := 1 ≤ m
abbrev TearCQ (W : World) (x : TearC) (m : Nat) : Prop := (∃ k, k ≤ m ∧ StrQ W x.name k) ∧ (∃ k, k ≤ m ∧ IntQ W x.keep k) ∧ (∃ k, k ≤ m ∧ (SlicesQ ByteQ) W x.junk k)
theorem reads_TearC : Reads Try.prog 70 TearC TearCQ := by
  intro H enc W fuel cs x h
  obtain ⟨xs, n, rfl, rfl, hlen, hxs, hf⟩ := DataW.trod_struct Try.underlying70 h
  obtain ⟨y0, y1, y2, rfl⟩ : ∃ y0 y1 y2, xs = [y0, y1, y2] := by
    match xs, hxs with
    | [y0, y1, y2], _ => exact ⟨y0, y1, y2, rfl⟩
  obtain ⟨v0, e0, q0⟩ := (reads_string Try.underlying9) H enc W n _ _ (hf 0 _ rfl)
  replace e0 : (cs.drop 0).take (Try.prog.cellsOf 9) = cellsOf v0 := e0
  rw [show Try.prog.cellsOf 9 = 1 by kernel_rfl] at e0
  have c0 : cs.drop 0 = (cs.drop 0).take 1 ++ cs.drop 1 := chunk cs 0 1
  obtain ⟨v1, e1, q1⟩ := (reads_int Try.underlying3) H enc W n _ _ (hf 1 _ rfl)
  replace e1 : (cs.drop 1).take (Try.prog.cellsOf 3) = cellsOf v1 := e1
  rw [show Try.prog.cellsOf 3 = 1 by kernel_rfl] at e1
  have c1 : cs.drop 1 = (cs.drop 1).take 1 ++ cs.drop 2 := chunk cs 1 1
  obtain ⟨v2, e2, q2⟩ := (reads_slice (α := UInt8) Try.underlying26 (by kernel_rfl) (reads_byte Try.underlying5)) H enc W n _ _ (hf 2 _ rfl)
  replace e2 : (cs.drop 2).take (Try.prog.cellsOf 26) = cellsOf v2 := e2
  rw [show Try.prog.cellsOf 26 = 1 by kernel_rfl] at e2
  have c2 : cs.drop 2 = (cs.drop 2).take 1 ++ cs.drop 3 := chunk cs 2 1
  have hl : cs.length = 3 := hlen.trans (by kernel_rfl)
  have t : cs = cs.drop 0 := rfl
  have cN : cs.drop 3 = [] := List.drop_eq_nil_of_le (by omega)
  rw [e0] at c0
  rw [e1] at c1
  rw [e2] at c2
  rw [c0, c1, c2, cN] at t
  refine ⟨⟨v0, v1, v2⟩, t, ⟨_, ?_, q0⟩, ⟨_, ?_, q1⟩, ⟨_, ?_, q2⟩⟩
  all_goals (simp only [List.map_cons, List.map_nil, Rows.uptoBulk, Rows.uptoBulkAll]; omega)
theorem tears_of {W : World} {ts : List TearC} {m : Nat} (hm : m ≤ 1048576) (h : ∀ t ∈ ts, ∃ k, k + 1 ≤ m ∧ TearCQ W t k) : ∃ pts, TearsAt W ts pts := by
  induction ts with
  | nil => exact ⟨[], rfl, fun i t p h _ => by simp at h, fun p h => by simp at h⟩
  | cons t l ih =>
    obtain ⟨pts, h1⟩ := ih fun t ht => h t (List.mem_cons_of_mem _ ht)
    obtain ⟨k, hk, ⟨k1, g1, g2⟩, ⟨k2, g3, g4⟩, ⟨k3, g5, js, j1, j2, j3, j4, j5⟩⟩ := h t (by simp)
    refine ⟨⟨t.name, t.keep, js⟩ :: pts, by simp [h1.len], ?_, ?_⟩
    · intro i x p hx hp
      cases i with
      | zero => simp at hx hp; subst hx; subst hp; exact ⟨rfl, rfl, j1, j2⟩
      | succ i => simp at hx hp; exact h1.all i x p hx hp
    · intro p hp
      rcases List.mem_cons.1 hp with rfl | hp
      · have g6 : t.name.size + 1 ≤ k1 := g2
        exact ⟨by show t.name.size ≤ 4294967295; omega, by show js.length ≤ 4294967295; omega, g4.1.1, g4.1.2⟩
      · exact h1.size p hp
abbrev DoCQ (W : World) (x : DoC) (m : Nat) : Prop := (∃ k, k ≤ m ∧ IntQ W x.op k) ∧ (∃ k, k ≤ m ∧ StrQ W x.name k) ∧ (∃ k, k ≤ m ∧ StrQ W x.other k) ∧ (∃ k, k ≤ m ∧ (SlicesQ ByteQ) W x.bytes k) ∧ (∃ k, k ≤ m ∧ (SlicesQ TearCQ) W x.tears k)
theorem reads_DoC : Reads Try.prog 34 DoC DoCQ := by
  intro H enc W fuel cs x h
  obtain ⟨xs, n, rfl, rfl, hlen, hxs, hf⟩ := DataW.trod_struct Try.underlying34 h
  obtain ⟨y0, y1, y2, y3, y4, rfl⟩ : ∃ y0 y1 y2 y3 y4, xs = [y0, y1, y2, y3, y4] := by
    match xs, hxs with
    | [y0, y1, y2, y3, y4], _ => exact ⟨y0, y1, y2, y3, y4, rfl⟩
  obtain ⟨v0, e0, q0⟩ := (reads_int Try.underlying3) H enc W n _ _ (hf 0 _ rfl)
  replace e0 : (cs.drop 0).take (Try.prog.cellsOf 3) = cellsOf v0 := e0
  rw [show Try.prog.cellsOf 3 = 1 by kernel_rfl] at e0
  have c0 : cs.drop 0 = (cs.drop 0).take 1 ++ cs.drop 1 := chunk cs 0 1
  obtain ⟨v1, e1, q1⟩ := (reads_string Try.underlying9) H enc W n _ _ (hf 1 _ rfl)
  replace e1 : (cs.drop 1).take (Try.prog.cellsOf 9) = cellsOf v1 := e1
  rw [show Try.prog.cellsOf 9 = 1 by kernel_rfl] at e1
  have c1 : cs.drop 1 = (cs.drop 1).take 1 ++ cs.drop 2 := chunk cs 1 1
  obtain ⟨v2, e2, q2⟩ := (reads_string Try.underlying9) H enc W n _ _ (hf 2 _ rfl)
  replace e2 : (cs.drop 2).take (Try.prog.cellsOf 9) = cellsOf v2 := e2
  rw [show Try.prog.cellsOf 9 = 1 by kernel_rfl] at e2
  have c2 : cs.drop 2 = (cs.drop 2).take 1 ++ cs.drop 3 := chunk cs 2 1
  obtain ⟨v3, e3, q3⟩ := (reads_slice (α := UInt8) Try.underlying26 (by kernel_rfl) (reads_byte Try.underlying5)) H enc W n _ _ (hf 3 _ rfl)
  replace e3 : (cs.drop 3).take (Try.prog.cellsOf 26) = cellsOf v3 := e3
  rw [show Try.prog.cellsOf 26 = 1 by kernel_rfl] at e3
  have c3 : cs.drop 3 = (cs.drop 3).take 1 ++ cs.drop 4 := chunk cs 3 1
  obtain ⟨v4, e4, q4⟩ := (reads_slice (α := TearC) Try.underlying32 (by kernel_rfl) reads_TearC) H enc W n _ _ (hf 4 _ rfl)
  replace e4 : (cs.drop 4).take (Try.prog.cellsOf 32) = cellsOf v4 := e4
  rw [show Try.prog.cellsOf 32 = 1 by kernel_rfl] at e4
  have c4 : cs.drop 4 = (cs.drop 4).take 1 ++ cs.drop 5 := chunk cs 4 1
  have hl : cs.length = 5 := hlen.trans (by kernel_rfl)
  have t : cs = cs.drop 0 := rfl
  have cN : cs.drop 5 = [] := List.drop_eq_nil_of_le (by omega)
  rw [e0] at c0
  rw [e1] at c1
  rw [e2] at c2
  rw [e3] at c3
  rw [e4] at c4
  rw [c0, c1, c2, c3, c4, cN] at t
  refine ⟨⟨v0, v1, v2, v3, v4⟩, t, ⟨_, ?_, q0⟩, ⟨_, ?_, q1⟩, ⟨_, ?_, q2⟩, ⟨_, ?_, q3⟩, ⟨_, ?_, q4⟩⟩
  all_goals (simp only [List.map_cons, List.map_nil, Rows.uptoBulk, Rows.uptoBulkAll]; omega)
theorem do_of {W : World} {o : DoC} {m : Nat} (hm : m ≤ 1048576) (h : DoCQ W o m) : ∃ b pts, DoAt W o b pts := by
  obtain ⟨-, ⟨k1, g1, g2⟩, ⟨k2, g3, g4⟩, ⟨k3, g5, b, b1, b2, b3, b4, b5⟩, ⟨k4, g6, ts, t1, t2, t3, t4, t5⟩⟩ := h
  obtain ⟨pts, hp⟩ := tears_of (by omega) t4
  have e1 : o.name.size + 1 ≤ k1 := g2
  have e2 : o.other.size + 1 ≤ k2 := g4
  have e3 := hp.len
  exact ⟨b, pts, b1, b2, ⟨ts, t1, t2, hp⟩, by omega, by omega, by omega, by omega⟩
theorem dos_of {W : World} {os : List DoC} {m : Nat} (hm : m ≤ 1048576) (h : ∀ o ∈ os, ∃ k, k + 1 ≤ m ∧ DoCQ W o k) : ∃ ps, DosAt W os ps := by
  induction os with
  | nil => exact ⟨[], rfl, fun i t p h _ => by simp at h⟩
  | cons o l ih =>
    obtain ⟨ps, h1⟩ := ih fun t ht => h t (List.mem_cons_of_mem _ ht)
    obtain ⟨k, hk, hq⟩ := h o (by simp)
    obtain ⟨b, pts, hd⟩ := do_of (by omega) hq
    refine ⟨⟨o.op, o.name, o.other, b, pts⟩ :: ps, by simp [h1.len], ?_⟩
    intro i x p hx hp
    cases i with
    | zero => simp at hx hp; subst hx; subst hp; exact ⟨b, pts, rfl, hd⟩
    | succ i => simp at hx hp; exact h1.all i x p hx hp

theorem own : ownKnob Try.prog.godebug = none := by kernel_rfl
theorem laid : laidOutB Try.prog = true := by kernel_rfl
set_option maxRecDepth 100000 in
set_option maxHeartbeats 1000000 in
theorem contract (H : Type) (enc : TypeId × Value → H) (W : World) (base : Nat) (args : Array Value) (ds gs : List (DataW H)) (before : List MemPlace)
    (hval : ∀ (j : Nat) t v, Try.f8.params[j]? = some t → args[j]? = some v → Value.okWide Try.prog W .any base t v)
    (hW : DataW.Whole enc Try.prog Try.f8.params.toList Rows.diskCopiesSpec.vars false W args.toList ds gs before) (hk : Rows.uptoSmall H (ds ++ gs) = true) :
    Calls Try.prog 8 args W fun e W' => ∃ v, e = .returned v ∧ Rows.diskCopiesSpec.post enc Try.prog Try.f8 false true false false W args v W' := by
  have hW' := hW
  obtain ⟨p, q, hA0, hV, rfl, hfz, hnd⟩ := hW
  have hA : DataW.TrodAll enc Try.prog W 0 (fun _ => true) true Try.f8.params.toList args.toList ds p := hA0
  rw [Try.params8] at hA hval
  obtain ⟨v0, vs0, d0, ds0, p0, q0, hargs, rfl, rfl, h0, r0⟩ := trodAll_cons hA
  obtain ⟨v1, vs1, d1, ds1, p1, q1, rfl, rfl, rfl, h1, r1⟩ := trodAll_cons r0
  obtain ⟨v2, vs2, d2, ds2, p2, q2, rfl, rfl, rfl, h2, r2⟩ := trodAll_cons r1
  obtain ⟨rfl, rfl, rfl⟩ := trodAll_nil r2
  obtain rfl : args = #[v0, v1, v2] := by cases args; simp_all
  obtain ⟨rfl, rfl⟩ := trodVars_none hV
  clear hA0 hA
  have hk0 : Rows.uptoBulkAll [d0, d1, d2] ≤ 1048576 := by have h : Rows.uptoBulkAll ([d0, d1, d2] ++ []) ≤ 1048576 := of_decide_eq_true hk; simpa using h
  simp only [Rows.uptoBulkAll] at hk0
  obtain ⟨z0, rfl, hz0⟩ := param_int Try.underlying3 (reads_int Try.underlying3) h0 (hval 0 3 v0 rfl rfl)
  obtain ⟨s1, rfl, x1, hl1, hs1, hm1, hq1, hu1⟩ := param_slice Try.underlying22 (reads_slice (α := DoC) Try.underlying22 (by kernel_rfl) (reads_DoC)) (hval 1 22 v1 rfl rfl) h1
  obtain ⟨a1, len1, c1⟩ := s1
  simp only at hl1 hs1 hu1
  subst hl1
  obtain ⟨ps1, hps1⟩ := dos_of (by omega) hq1
  obtain ⟨s2, rfl, x2, hl2, hs2, hm2, hq2, hu2⟩ := param_slice Try.underlying22 (reads_slice (α := DoC) Try.underlying22 (by kernel_rfl) (reads_DoC)) (hval 2 22 v2 rfl rfl) h2
  obtain ⟨a2, len2, c2⟩ := s2
  simp only at hl2 hs2 hu2
  subst hl2
  obtain ⟨ps2, hps2⟩ := dos_of (by omega) hq2
  refine (law_copies z0 a1 x1 c1 ps1 a2 x2 c2 ps2 W hs1 hps1 (by omega) hs2 hps2 (by omega)).mono fun e W' he => ?_
  obtain ⟨v, rfl, rfl, hext⟩ := he
  exact ⟨_, rfl, law_post rfl laid (by rw [Try.params8]; intro t ht; simp at ht; rcases ht with rfl | rfl <;> exact ⟨by kernel_rfl, by decide +kernel⟩) hW' rfl rfl Try.underlying4 hext⟩

set_option maxRecDepth 100000 in
theorem lifted (os : Os) (started : os.Started) (H : Type) (enc : TypeId × Value → H) (F : Stop.Interp) :
    ReturnsInHanded {} Try.checked os 8 .any ((Rows.OpenSpec.upto Rows.diskCopiesSpec).pre6 enc Try.prog Try.f8 Rows.diskCopiesUptoRow.domain false) (((Rows.OpenSpec.upto Rows.diskCopiesSpec).at F).post enc Try.prog Try.f8 false true false false) := by
  refine returnsInHanded_of_cond (C := Try.checked) (s := Rows.OpenSpec.upto Rows.diskCopiesSpec) (k := Rows.uptoSmall) rfl own started (by kernel_rfl) Try.func8
    (OpenSpec.witness (enc := enc) (C := Try.checked) (s := Rows.OpenSpec.upto Rows.diskCopiesSpec) (k := Rows.uptoSmall) rfl false ⟨#[], #[.int .i64 0, .slice none 0 0, .slice none 0 0], []⟩ 8 (by kernel_rfl) (by kernel_rfl) (by kernel_rfl)
      (x := ([.lit (.int .i64 0), .nil, .nil], [], [])) (by kernel_rfl) rfl (by kernel_rfl)) ?_
  intro W base args ds gs before hval hW _ hk _
  exact contract H enc W base args ds gs before hval hW hk

set_option maxRecDepth 100000 in
theorem proved : Rows.DiskCopiesUptoSaid :=
  OpenClaim.holds_of_cond 8 Try.f8 rfl rfl rfl rfl rfl rfl rfl ⟨rfl, rfl, rfl, rfl, rfl⟩ rfl rfl rfl rfl rfl (by kernel_rfl) Try.func8 (by kernel_rfl)
    (of_decide_eq_true (by kernel_rfl)) (by unfold Func.isWrapper; first | (rw [if_pos (by decide +kernel)]; kernel_rfl) | (rw [if_neg (by decide +kernel)]; exact ⟨rfl, rfl⟩))
    (fun os started H enc _ F => lifted os started H enc F)
end Go.Proofs.Ytambibdkanpmaaa.diskCopies
