/-
  Layer 2's walks, first part.
-/
import Derived.Test.YtnphndfbgdkgbaaGreatDoorRows
import Derived.Test.YtnphndfbgdkgbaaGreatDoorDa
namespace Go.Proofs.YtnphndfbgdkgbaaGreatDoor
attribute [local irreducible] St1 RL RA RT RT1 Run

theorem okC_no {c : UInt8} (h : okC c = false) : ¬ (c.toNat = 46 ∨ c.toNat = 45 ∨ c.toNat = 95 ∨ (48 ≤ c.toNat ∧ c.toNat ≤ 57) ∨ (97 ≤ c.toNat ∧ c.toNat ≤ 122) ∨ (65 ≤ c.toNat ∧ c.toNat ≤ 90)) := of_decide_eq_false h
theorem okC_yes {c : UInt8} (h : c.toNat = 46 ∨ c.toNat = 45 ∨ c.toNat = 95 ∨ (48 ≤ c.toNat ∧ c.toNat ≤ 57) ∨ (97 ≤ c.toNat ∧ c.toNat ≤ 122) ∨ (65 ≤ c.toNat ∧ c.toNat ≤ 90)) : okC c = true := decide_eq_true h
theorem mayN_no {s : ByteArray} {i : Nat} {c : UInt8} (h : s.data.toList[i]? = some c) (hc : okC c = false) : mayN s = false := by
  rw [mayN, List.all_eq_false.2 ⟨c, List.mem_of_getElem? h, by simp [hc]⟩, Bool.false_and]
theorem mayN_end {s : ByteArray} (h : NoB (fun c => !okC c) s.data.toList s.data.toList.length) : mayN s = (!decide (s = ⟨#[]⟩) && decide (((s.size : Nat) : Int) ≤ 32)) := by
  rw [mayN, List.all_eq_true.2 (fun c hc => by
    obtain ⟨i, hi, rfl⟩ := List.getElem_of_mem hc
    have := h i _ hi (List.getElem?_eq_getElem hi)
    simpa using this), Bool.true_and, emptyS]
  rw [Bool.eq_iff_iff]
  simp only [Bool.and_eq_true, decide_eq_true_eq, Bool.not_eq_true', decide_eq_false_iff_not]
  omega
theorem used_cons (f : FileS) (l : List FileS) : usedL ((f :: l).map FileS.p) = f.bytes.length + usedL (l.map FileS.p) := by simp [usedL, FileS.p]
theorem used_erase {rs : List FileS} {j : Nat} {f : FileS} (h : rs[j]? = some f) : usedL (rs.map FileS.p) = f.bytes.length + usedL ((rs.eraseIdx j).map FileS.p) := by
  induction rs generalizing j with
  | nil => simp at h
  | cons x l ih =>
    cases j with
    | zero => simp only [List.getElem?_cons_zero, Option.some.injEq] at h; subst h; rw [List.eraseIdx_cons_zero, used_cons]
    | succ j => simp only [List.getElem?_cons_succ] at h; rw [List.eraseIdx_cons_succ, used_cons, used_cons, ih h]; omega
theorem erase_lt {rs : List FileS} {j : Nat} {f : FileS} (h : rs[j]? = some f) : (rs.eraseIdx j).length < rs.length := by
  have := (List.getElem?_eq_some_iff.1 h).1
  rw [List.length_eraseIdx, if_pos this]; omega

theorem ty5 : Ty Tryz.prog 5 1 1 (.int .u8 (0)) false := ty_of (by kernel_rfl) (by kernel_rfl)
theorem ty74 : Ty Tryz.prog 74 1 24 (.slice (none) (0) (0)) false := ty_of (by kernel_rfl) (by kernel_rfl)
theorem ty150 : Ty Tryz.prog 150 1 8 (.map none) false := ty_of (by kernel_rfl) (by kernel_rfl)
theorem ty180 : Ty Tryz.prog 180 1 8 (.pointer none) false := ty_of (by kernel_rfl) (by kernel_rfl)
theorem en166 : Enters Tryz.prog 166 := enters_of Tryz.func166 rfl (by kernel_rfl)
theorem en167 : Enters Tryz.prog 167 := enters_of Tryz.func167 rfl (by kernel_rfl)

set_option maxRecDepth 100000 in
set_option maxHeartbeats 4000000 in
theorem may_ (s : ByteArray) (w : World) (hs : s.size ≤ 4294967295) :
    Calls Tryz.prog 167 #[.string (s)] w (Ret (fun v w' => v = .bool (mayN s) ∧ Ext w w')) := by
  have hsl : s.data.toList.length = s.size := dataLen s
  refine calls_run (n := 54) Tryz.func167 rfl rfl rfl ?_
  refine Run.seq ?_
  refine Run.region ?_
  refine RL.val (x_assignB rfl) ?_
  refine RL.nil ?_
  refine Run.seq ?_
  refine Run.seq ?_
  refine Run.region ?_
  refine RL.val (x_moveS rfl) ?_
  refine RL.st rfl <| St1.bytes Tryz.underlying9 Tryz.underlying74 Tryz.underlying5 rfl ?_
  intro b_1 c_2 w_3 hl_4 hs_5 K_6
  have K0 := (K_6 : Ext w _)
  refine RL.val (x_lenSl Tryz.underlying74 rfl) ?_
  refine RL.val (x_moveI rfl) ?_
  refine RL.nil ?_
  refine Run.block ?_
  refine Run.loop (ι := Nat) (fun i ρ' w' => Holds ρ' [(0, .string (s)), (6, .slice (some ⟨b_1, 0, none⟩) ((s).data.toList.length) (c_2)), (7, .int .i64 ((((s).data.toList.length : Nat) : Int))), (8, .int .i64 (((i : Nat) : Int)))] ∧ Ext w w' ∧ (SlOf w' (some ⟨b_1, 0, none⟩) ((s).data.toList)) ∧ (i ≤ s.data.toList.length) ∧ (NoB (fun c => !okC c) s.data.toList i)) (fun i => s.data.toList.length - i) 0 ?_ ?_
  · refine ⟨⟨rfl, rfl, rfl, rfl, trivial⟩, K0, hs_5, ?_, ?_⟩
    · omega
    · exact NoB.zero _ _
  clear K0
  rintro i ρ_9 w_7 ⟨hH_8, K0, hs_5, hi, hno⟩ ih1
  obtain ⟨ρ₀, rfl⟩ := hH_8.ex
  clear hH_8
  refine Run.seq ?_
  refine Run.region ?_
  refine RL.val (x_ltI rfl rfl) ?_
  refine RL.nil ?_
  refine Run.seq ?_
  refine Run.cond rfl (fun hc9 => ?_) (fun hc9 => ?_)
  · try simp only [br] at hc9
    refine Run.skip ?_
    refine Run.seq ?_
    refine Run.block ?_
    refine Run.seq ?_
    refine Run.region ?_
    obtain ⟨b_10, o_11, c, hx, ha_12, hc_13⟩ := hs_5.el (i := i) (by first | omega | (simp only [List.length_set]; omega))
    refine RL.val (x_idxN Tryz.underlying74 ty5 rfl rfl ha_12 (by first | omega | (simp only [List.length_set]; omega))) ?_
    refine RL.val (x_ldV (v := .int .u8 (((c).toNat : Int))) (y := c) ty5 rfl hc_13 rfl) ?_
    refine RL.val (x_assignI rfl) ?_
    refine RL.nil ?_
    refine Run.seq ?_
    refine Run.region ?_
    refine RL.val (x_moveI rfl) ?_
    refine RL.val (x_neI rfl rfl) ?_
    refine RL.val (x_moveB rfl) ?_
    refine RL.gval (wantedT rfl rfl rfl rfl) (fun hg => (x_moveI rfl)) ?_
    refine RL.gval (wantedT rfl rfl rfl rfl) (fun hg => (x_neI (gvr hg) rfl)) ?_
    refine RL.val (x_and rfl rfl rfl) ?_
    refine RL.val (x_moveB rfl) ?_
    refine RL.gval (wantedT rfl rfl rfl rfl) (fun hg => (x_moveI rfl)) ?_
    refine RL.gval (wantedT rfl rfl rfl rfl) (fun hg => (x_neI (gvr hg) rfl)) ?_
    refine RL.val (x_and rfl rfl rfl) ?_
    refine RL.val (x_moveB rfl) ?_
    refine RL.gval (wantedT rfl rfl rfl rfl) (fun hg => (x_moveI rfl)) ?_
    refine RL.gval (wantedT rfl rfl rfl rfl) (fun hg => (x_ltI (gvr hg) rfl)) ?_
    refine RL.gval (wantedT rfl rfl rfl rfl) (fun hg => (x_moveB (gvr hg))) ?_
    refine RL.gval (wantedGF rfl rfl rfl rfl) (fun hg => (x_moveI rfl)) ?_
    refine RL.gval (wantedGF rfl rfl rfl rfl) (fun hg => (x_gtI (gvr hg) rfl)) ?_
    refine RL.gval (wantedT rfl rfl rfl rfl) (fun hg => (x_orG hg rfl rfl rfl)) ?_
    refine RL.val (x_and rfl rfl rfl) ?_
    refine RL.val (x_moveB rfl) ?_
    refine RL.gval (wantedT rfl rfl rfl rfl) (fun hg => (x_moveI rfl)) ?_
    refine RL.gval (wantedT rfl rfl rfl rfl) (fun hg => (x_ltI (gvr hg) rfl)) ?_
    refine RL.gval (wantedT rfl rfl rfl rfl) (fun hg => (x_moveB (gvr hg))) ?_
    refine RL.gval (wantedGF rfl rfl rfl rfl) (fun hg => (x_moveI rfl)) ?_
    refine RL.gval (wantedGF rfl rfl rfl rfl) (fun hg => (x_gtI (gvr hg) rfl)) ?_
    refine RL.gval (wantedT rfl rfl rfl rfl) (fun hg => (x_orG hg rfl rfl rfl)) ?_
    refine RL.val (x_and rfl rfl rfl) ?_
    refine RL.val (x_moveB rfl) ?_
    refine RL.gval (wantedT rfl rfl rfl rfl) (fun hg => (x_moveI rfl)) ?_
    refine RL.gval (wantedT rfl rfl rfl rfl) (fun hg => (x_ltI (gvr hg) rfl)) ?_
    refine RL.gval (wantedT rfl rfl rfl rfl) (fun hg => (x_moveB (gvr hg))) ?_
    refine RL.gval (wantedGF rfl rfl rfl rfl) (fun hg => (x_moveI rfl)) ?_
    refine RL.gval (wantedGF rfl rfl rfl rfl) (fun hg => (x_gtI (gvr hg) rfl)) ?_
    refine RL.gval (wantedT rfl rfl rfl rfl) (fun hg => (x_orG hg rfl rfl rfl)) ?_
    refine RL.val (x_and rfl rfl rfl) ?_
    refine RL.nil ?_
    refine Run.cond rfl (fun hc45 => ?_) (fun hc45 => ?_)
    · try simp only [br] at hc45
      have hok1 : okC c = false := by
        first
        | (refine okC_yes ?_; omega)
        | (cases hq : okC c with
          | false => rfl
          | true => exfalso; have hq2 := of_decide_eq_true hq; omega)
      refine Run.seq ?_
      refine Run.region ?_
      refine RL.val (x_assignB rfl) ?_
      refine RL.nil ?_
      refine Run.ret1 (v := .bool (false)) Tryz.func167 rfl rfl ?_
      exact ⟨_, rfl, by rw [mayN_no hx hok1], K0⟩
    · try simp only [br] at hc45
      have hok1 : okC c = true := by
        first
        | (refine okC_yes ?_; omega)
        | (cases hq : okC c with
          | false => rfl
          | true => exfalso; have hq2 := of_decide_eq_true hq; omega)
      refine Run.skip ?_
      refine Run.inBlock ?_
      refine Run.region ?_
      refine RL.val (litI (c := ((i + 1 : Nat) : Int)) (x_add rfl rfl (by omega) (by omega)) rfl) ?_
      refine RL.val (x_moveI rfl) ?_
      refine RL.nil ?_
      refine ih1 (i + 1) _ _ ?_ (by omega)
      refine ⟨⟨rfl, rfl, rfl, rfl, trivial⟩, K0, hs_5, ?_, ?_⟩
      · omega
      · exact hno.step hx (by rw [hok1]; rfl)
  · try simp only [br] at hc9
    refine Run.exit rfl ?_
    refine Run.seq ?_
    refine Run.region ?_
    refine RL.val (x_moveS rfl) ?_
    refine RL.val (x_neS rfl rfl) ?_
    refine RL.val (x_moveB rfl) ?_
    refine RL.gval (wantedT rfl rfl rfl rfl) (fun hg => (x_moveS rfl)) ?_
    refine RL.gval (wantedT rfl rfl rfl rfl) (fun hg => (x_lenStr Tryz.underlying9 (gvr hg))) ?_
    refine RL.gval (wantedT rfl rfl rfl rfl) (fun hg => (x_leI (gvr hg) rfl)) ?_
    refine RL.val (x_and rfl rfl rfl) ?_
    refine RL.val (x_assignB rfl) ?_
    refine RL.nil ?_
    refine Run.ret1 (v := .bool ((!decide (s = ⟨#[]⟩)) && (decide ((((s).size : Nat) : Int) ≤ 32)))) Tryz.func167 rfl rfl ?_
    have hil : i = s.data.toList.length := by omega
    subst hil
    exact ⟨_, rfl, by rw [mayN_end hno], K0⟩

set_option maxRecDepth 100000 in
set_option maxHeartbeats 4000000 in
theorem made_ (d m : Nat) (room : Int) (fs : List FileS) (w : World) (hD : DiskO w d m room fs) :
    Calls Tryz.prog 166 #[.pointer (some ⟨d, 0, none⟩)] w (Ret (fun v w' => v = .bool true ∧ w = w')) := by
  obtain ⟨hB, hM, hF, hmd, hfd, hfm, hok⟩ := hD
  have hnd := DiskO.names hok
  have hlens := PLOk.lens hok
  have hroom := hok.room
  have hused := hok.used
  have hcnt := hok.len
  rw [List.length_map] at hcnt
  refine calls_run (n := 12) Tryz.func166 rfl rfl rfl ?_
  refine Run.seq ?_
  refine Run.region ?_
  refine RL.val (x_assignB rfl) ?_
  refine RL.nil ?_
  refine Run.seq ?_
  refine Run.region ?_
  refine RL.val (x_moveP rfl) ?_
  refine RL.val (litT (x_ptrNotNil Tryz.underlying62 rfl rfl) rfl) ?_
  refine RL.val (x_moveB rfl) ?_
  refine RL.gst (wantedT1 rfl rfl rfl rfl) <| St1.val (x_moveP rfl) ?_
  refine RL.gst (wantedT1 rfl rfl rfl rfl) <| St1.val (x_nilCheck rfl) ?_
  refine RL.gst (wantedT1 rfl rfl rfl rfl) <| St1.val (x_fld (o' := 0) Tryz.underlying152 rfl ty150 rfl rfl rfl) ?_
  refine RL.gst (wantedT1 rfl rfl rfl rfl) <| St1.val (x_ld (v := .map (some m)) ty150 rfl rfl (hB.cl.field (i := 0) rfl)) ?_
  refine RL.gst (wantedT1 rfl rfl rfl rfl) <| St1.val (litT (x_mapNotNil Tryz.underlying150 rfl rfl) rfl) ?_
  refine RL.val (x_andT rfl rfl rfl) ?_
  refine RL.val (x_assignB rfl) ?_
  refine RL.nil ?_
  refine Run.ret1 (v := .bool (true)) Tryz.func166 rfl rfl ?_
  exact ⟨_, rfl, rfl, rfl⟩

set_option maxRecDepth 100000 in
set_option maxHeartbeats 4000000 in
theorem look_ (d m : Nat) (room : Int) (fs : List FileS) (name : ByteArray) (w : World) (hD : DiskO w d m room fs) (hs : name.size ≤ 4294967295) :
    Calls Tryz.prog 117 #[.pointer (some ⟨d, 0, none⟩), .string (name)] w (Ret (fun v w' => Ext w w' ∧ ((mayN name = false ∧ v = .tuple #[.pointer none, .int .i64 6]) ∨ (mayN name = true ∧ (∀ f ∈ fs, f.name ≠ name) ∧ v = .tuple #[.pointer none, .int .i64 20]) ∨ (mayN name = true ∧ ∃ l1 f l2, fs = l1 ++ f :: l2 ∧ f.name = name ∧ v = .tuple #[.pointer (some ⟨f.blk, 0, none⟩), .int .i64 0])))) := by
  obtain ⟨hB, hM, hF, hmd, hfd, hfm, hok⟩ := hD
  have hnd := DiskO.names hok
  have hlens := PLOk.lens hok
  have hroom := hok.room
  have hused := hok.used
  have hcnt := hok.len
  rw [List.length_map] at hcnt
  refine calls_run (n := 28) Tryz.func117 rfl rfl rfl ?_
  refine Run.seq ?_
  refine Run.region ?_
  refine RL.val (x_assignP rfl) ?_
  refine RL.val (x_assignI rfl) ?_
  refine RL.nil ?_
  refine Run.seq ?_
  refine Run.block ?_
  refine Run.seq ?_
  refine Run.region ?_
  refine RL.val (x_moveP rfl) ?_
  refine RL.st rfl <| St1.call (vals := [.pointer (some ⟨d, 0, none⟩)]) en166 rfl (made_ d m room fs _ (⟨hB, hM, hF, hmd, hfd, hfm, hok⟩ : DiskO _ d m room fs)) ?_
  rintro _ _ ⟨rfl, rfl⟩
  refine RL.val (x_not (b := true) rfl) ?_
  refine RL.val (x_assignB rfl) ?_
  refine RL.nil ?_
  refine Run.condF rfl ?_
  refine Run.seq ?_
  refine Run.region ?_
  refine RL.val (x_moveS rfl) ?_
  refine RL.st rfl <| St1.call (vals := [.string (name)]) en167 rfl (may_ name _ (by omega)) ?_
  rintro _ w_1 ⟨rfl, K_2⟩
  replace hB := hB.ext K_2
  replace hM := hM.ext K_2
  replace hF := hF.ext K_2
  have K0 := (K_2 : Ext w _)
  refine RL.val (x_not rfl) ?_
  refine RL.val (x_assignB rfl) ?_
  refine RL.nil ?_
  refine Run.cond rfl (fun hc10 => ?_) (fun hc10 => ?_)
  · try simp only [br] at hc10
    refine Run.seq ?_
    refine Run.region ?_
    refine RL.val (x_assignP rfl) ?_
    refine RL.val (x_assignI rfl) ?_
    refine RL.nil ?_
    refine Run.ret2 (v := .pointer none) (x := .int .i64 (6)) Tryz.func117 rfl rfl rfl ?_
    exact ⟨_, rfl, K0, .inl ⟨by simpa using hc10, rfl⟩⟩
  · try simp only [br] at hc10
    refine Run.seq ?_
    by_cases hh : ∃ f ∈ fs, f.name = name
    · obtain ⟨f, hf, hfn⟩ := hh
      obtain ⟨l1, l2, hfs⟩ := List.append_of_mem hf
      refine Run.region ?_
      refine RL.val (x_moveP rfl) ?_
      refine RL.val (x_nilCheck rfl) ?_
      refine RL.val (x_fld (o' := 0) Tryz.underlying152 rfl ty150 rfl rfl rfl) ?_
      refine RL.val (x_ld (v := .map (some m)) ty150 rfl rfl (hB.cl.field (i := 0) rfl)) ?_
      refine RL.val (x_moveS rfl) ?_
      refine RL.val (litV (v' := .pointer (some ⟨f.blk, 0, none⟩)) (x_lookup Tryz.underlying150 Tryz.underlying9 rfl ty180 rfl rfl hM) (ents_mid' hnd hfs hfn)) ?_
      refine RL.val (litF (x_ptrNil Tryz.underlying180 rfl rfl) rfl) ?_
      refine RL.val (x_assignB rfl) ?_
      refine RL.nil ?_
      refine Run.condF rfl ?_
      refine Run.skip ?_
      refine Run.inBlock ?_
      refine Run.seq ?_
      refine Run.region ?_
      refine RL.val (x_moveP rfl) ?_
      refine RL.val (x_nilCheck rfl) ?_
      refine RL.val (x_fld (o' := 0) Tryz.underlying152 rfl ty150 rfl rfl rfl) ?_
      refine RL.val (x_ld (v := .map (some m)) ty150 rfl rfl (hB.cl.field (i := 0) rfl)) ?_
      refine RL.val (x_moveS rfl) ?_
      refine RL.val (litV (v' := .pointer (some ⟨f.blk, 0, none⟩)) (x_lookup Tryz.underlying150 Tryz.underlying9 rfl ty180 rfl rfl hM) (ents_mid' hnd hfs hfn)) ?_
      refine RL.val (x_assignP rfl) ?_
      refine RL.val (x_assignI rfl) ?_
      refine RL.nil ?_
      refine Run.ret2 (v := .pointer (some ⟨f.blk, 0, none⟩)) (x := .int .i64 (0)) Tryz.func117 rfl rfl rfl ?_
      exact ⟨_, rfl, K0, .inr (.inr ⟨by simpa using hc10, l1, f, l2, hfs, hfn, rfl⟩)⟩
    · have hno : ∀ f ∈ fs, f.name ≠ name := fun f hf e => hh ⟨f, hf, e⟩
      refine Run.region ?_
      refine RL.val (x_moveP rfl) ?_
      refine RL.val (x_nilCheck rfl) ?_
      refine RL.val (x_fld (o' := 0) Tryz.underlying152 rfl ty150 rfl rfl rfl) ?_
      refine RL.val (x_ld (v := .map (some m)) ty150 rfl rfl (hB.cl.field (i := 0) rfl)) ?_
      refine RL.val (x_moveS rfl) ?_
      refine RL.val (litV (v' := .pointer none) (x_lookup Tryz.underlying150 Tryz.underlying9 rfl ty180 rfl rfl hM) (ents_none' hno)) ?_
      refine RL.val (litT (x_ptrNil Tryz.underlying180 rfl rfl) rfl) ?_
      refine RL.val (x_assignB rfl) ?_
      refine RL.nil ?_
      refine Run.condT rfl ?_
      refine Run.seq ?_
      refine Run.region ?_
      refine RL.val (x_assignP rfl) ?_
      refine RL.val (x_assignI rfl) ?_
      refine RL.nil ?_
      refine Run.ret2 (v := .pointer none) (x := .int .i64 (20)) Tryz.func117 rfl rfl rfl ?_
      exact ⟨_, rfl, K0, .inr (.inl ⟨by simpa using hc10, hno, rfl⟩)⟩

set_option maxRecDepth 100000 in
set_option maxHeartbeats 4000000 in
theorem used_ (d m : Nat) (room : Int) (fs : List FileS) (w : World) (hD : DiskO w d m room fs) :
    Calls Tryz.prog 120 #[.pointer (some ⟨d, 0, none⟩)] w (Ret (fun v w' => v = .int .i64 ((usedL (fs.map FileS.p) : Nat) : Int) ∧ Ext w w')) := by
  obtain ⟨hB, hM, hF, hmd, hfd, hfm, hok⟩ := hD
  have hnd := DiskO.names hok
  have hlens := PLOk.lens hok
  have hroom := hok.room
  have hused := hok.used
  have hcnt := hok.len
  rw [List.length_map] at hcnt
  refine calls_run (n := 25) Tryz.func120 rfl rfl rfl ?_
  refine Run.seq ?_
  refine Run.region ?_
  refine RL.val (x_assignI rfl) ?_
  refine RL.nil ?_
  refine Run.seq ?_
  refine Run.region ?_
  refine RL.val (x_assignI rfl) ?_
  refine RL.nil ?_
  refine Run.seq ?_
  refine Run.seq ?_
  refine Run.region ?_
  refine RL.val (x_moveP rfl) ?_
  refine RL.st rfl <| St1.call (vals := [.pointer (some ⟨d, 0, none⟩)]) en166 rfl (made_ d m room fs _ (⟨hB, hM, hF, hmd, hfd, hfm, hok⟩ : DiskO _ d m room fs)) ?_
  rintro _ _ ⟨rfl, rfl⟩
  refine RL.nil ?_
  refine Run.condT rfl ?_
  refine Run.seq ?_
  refine Run.region ?_
  refine RL.val (x_moveP rfl) ?_
  refine RL.val (x_nilCheck rfl) ?_
  refine RL.val (x_fld (o' := 0) Tryz.underlying152 rfl ty150 rfl rfl rfl) ?_
  refine RL.val (x_ld (v := .map (some m)) ty150 rfl rfl (hB.cl.field (i := 0) rfl)) ?_
  refine RL.st rfl <| St1.rangeMap Tryz.underlying150 rfl hM ?_
  intro r_1 w_2 hl_3 hI_4 K_5
  have pr_6 : ¬ one r_1 d := notNew (ge_one hl_3) hB.lt
  have pr_7 : ∀ q_, one r_1 q_ → ¬ one m q_ := apartNew (ge_one hl_3) hM.own_lt
  have pr_8 : ∀ q_, one r_1 q_ → ¬ filesS fs q_ := apartNew (ge_one hl_3) hF.own_lt
  have pg_9 : ∀ q_, one r_1 q_ → w.heap.size ≤ q_ := fun q_ h => Nat.le_trans (Nat.le_refl _) ((ge_one hl_3) q_ h)
  clear hl_3
  replace hB := hB.ext K_5
  replace hM := hM.ext K_5
  replace hF := hF.ext K_5
  have K0 := (K_5 : Ext w _)
  refine RL.nil ?_
  refine Run.block ?_
  refine Run.loop (ι := Nat) (fun k ρ' w' => ∃ rs : List FileS, ∃ la : Option (ByteArray × Value), ∃ n : Nat, Holds ρ' [(3, .int .i64 (((n : Nat) : Int))), (12, .pointer (some ⟨r_1, 0, none⟩))] ∧ Ext w w' ∧ (Blk w' d [.map (some m), .int .i64 (room)] 152) ∧ (MapAt w' m (ents fs)) ∧ (FilesAt w' fs) ∧ (IterAt w' r_1 m (ents rs) la) ∧ (¬ one r_1 d) ∧ (∀ q_, one r_1 q_ → ¬ one m q_) ∧ (∀ q_, one r_1 q_ → ¬ filesS fs q_) ∧ (∀ q_, one r_1 q_ → w.heap.size ≤ q_) ∧ (k = rs.length) ∧ (n + usedL (rs.map FileS.p) = usedL (fs.map FileS.p)) ∧ (∀ f ∈ rs, f ∈ fs)) (fun k => k) fs.length ?_ ?_
  · refine ⟨fs, none, 0, ⟨rfl, rfl, trivial⟩, K0, hB, hM, hF, hI_4, pr_6, pr_7, pr_8, pg_9, ?_, ?_, ?_⟩
    · rfl
    · omega
    · exact fun f h => h
  clear hB hM hF hI_4
  clear K0
  rintro k ρ_17 w_10 ⟨rs, la, n, hH_11, K0, hB, hM, hF, hO_12, pr_13, pr_14, pr_15, pr_16, hk, hn, hsub⟩ ih1
  obtain ⟨ρ₀, rfl⟩ := hH_11.ex
  clear hH_11
  refine Run.seq ?_
  refine Run.region ?_
  refine RL.st rfl <| St1.nextMap rfl hO_12 ?_ ?_
  · intro h0_18
    replace h0_18 : rs = [] := by simpa [ents] using h0_18
    refine RL.val (x_extract rfl rfl) ?_
    refine RL.nil ?_
    refine Run.seq ?_
    refine Run.condF rfl ?_
    refine Run.exit rfl ?_
    refine Run.seq ?_
    have h0_ := h0_18
    refine Run.region ?_
    refine RL.val (x_moveI rfl) ?_
    refine RL.val (x_assignI rfl) ?_
    refine RL.nil ?_
    refine Run.ret1 (v := .int .i64 (((n : Nat) : Int))) Tryz.func120 rfl rfl ?_
    have hn' : n = usedL (fs.map FileS.p) := by rw [h0_] at hn; simpa [usedL] using hn
    exact ⟨_, rfl, by rw [hn'], K0⟩
  · intro jx ka_19 kv_20 w_21 h0_22 hI_23 K_24
    obtain ⟨f, hf, rfl, rfl⟩ := ents_get h0_22
    clear h0_22
    rw [ents_erase] at hI_23
    replace hB := hB.keep K_24 pr_13
    replace hM := hM.keepO K_24 (fun q_ h1 h2 => pr_14 q_ h2 h1)
    replace hF := hF.keepO K_24 (fun q_ h1 h2 => pr_15 q_ h2 h1)
    replace K0 := K0.new K_24 pr_16
    replace hO_12 := hI_23
    clear hI_23
    refine RL.val (x_extract rfl rfl) ?_
    refine RL.nil ?_
    refine Run.seq ?_
    refine Run.condT rfl ?_
    refine Run.skip ?_
    refine Run.block ?_
    refine Run.seq ?_
    refine Run.region ?_
    refine RL.val (x_entry rfl hO_12) ?_
    refine RL.val (x_extract rfl rfl) ?_
    refine RL.val (x_assignP rfl) ?_
    refine RL.nil ?_
    have hfm_ : f ∈ fs := hsub f (List.mem_of_getElem? hf)
    have hfl := hlens f hfm_
    have hb := (hF.all f hfm_).blk
    refine Run.region ?_
    refine RL.val (x_moveI rfl) ?_
    refine RL.val (x_moveP rfl) ?_
    refine RL.val (x_nilCheck rfl) ?_
    refine RL.val (x_fld (o' := 0) Tryz.underlying184 rfl ty74 rfl rfl rfl) ?_
    refine RL.val (x_ld (v := .slice (f.a) (f.bytes.length) (f.cap)) ty74 rfl rfl (hb.cl.field (i := 0) rfl)) ?_
    refine RL.val (x_lenSl Tryz.underlying74 rfl) ?_
    refine RL.val (litI (c := ((n + f.bytes.length : Nat) : Int)) (x_add rfl rfl (by omega) (by omega)) rfl) ?_
    refine RL.val (x_assignI rfl) ?_
    refine RL.nil ?_
    clear hb
    refine Run.inBlock ?_
    refine ih1 ((rs.eraseIdx jx).length) _ _ ?_ (by rw [hk]; exact erase_lt hf)
    refine ⟨_, _, n + f.bytes.length, ⟨rfl, rfl, trivial⟩, K0, hB, hM, hF, hO_12, pr_13, pr_14, pr_15, pr_16, ?_, ?_, ?_⟩
    · rfl
    · have := used_erase hf; omega
    · exact fun f h => hsub f (List.mem_of_mem_eraseIdx h)

end Go.Proofs.YtnphndfbgdkgbaaGreatDoor
