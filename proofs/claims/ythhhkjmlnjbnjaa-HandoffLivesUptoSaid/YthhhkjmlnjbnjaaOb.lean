/-
  Layer 18's walks, first part.
-/
import Derived.Test.YthhhkjmlnjbnjaaRows
import Derived.Test.YthhhkjmlnjbnjaaOa
namespace Go.Proofs.Ythhhkjmlnjbnjaa
attribute [local irreducible] St1 RL RA RT RT1 Run

section
variable {w w' : World} {ts l1 l2 : List (TrS Item)} {t : TrS Item} {part to : Int}
/-- whether a pointer is that of the transfer of a partition and a node -/
def qP (ts : List (TrS Item)) (part to : Int) (a : Option Addr) : Bool := match ts.find? (fun t => decide (t.ptr = a)) with | some t => sameT part to t.p | none => false
theorem ptr_inj (h : TrsAt 89 97 w ts) {x : TrS Item} (ht : t ∈ ts) (hx : x ∈ ts) (e : x.ptr = t.ptr) : x = t := by
  obtain ⟨l1, l2, rfl⟩ := List.append_of_mem ht
  have e2 : x.blk = t.blk := by simpa [TrS.ptr] using e
  obtain ⟨h1, h2, h3⟩ := h.open
  rcases List.mem_append.1 hx with hx | hx
  · exact absurd (show trS t x.blk from .inl e2) (h3 _ ⟨x, List.mem_append.2 (.inl hx), .inl rfl⟩)
  · rcases List.mem_cons.1 hx with hx | hx
    · exact hx
    · exact absurd (show trS t x.blk from .inl e2) (h3 _ ⟨x, List.mem_append.2 (.inr hx), .inl rfl⟩)
theorem qP_at (h : TrsAt 89 97 w ts) (ht : t ∈ ts) : qP ts part to t.ptr = sameT part to t.p := by
  unfold qP
  cases hf : ts.find? (fun x => decide (x.ptr = t.ptr)) with
  | none => have := List.find?_eq_none.1 hf t ht; simp at this
  | some x =>
    have h1 := List.find?_some hf
    have h2 := List.mem_of_find?_eq_some hf
    rw [ptr_inj h ht h2 (by simpa using h1)]
theorem findI_map {α β : Type} (f : α → β) (q : β → Bool) (l : List α) : findI q (l.map f) = findI (fun x => q (f x)) l := by
  unfold findI; rw [List.findIdx?_map]; rfl
theorem findI_congr {α : Type} {p q : α → Bool} {l : List α} (h : ∀ x ∈ l, p x = q x) : findI p l = findI q l := by
  unfold findI
  have : l.findIdx? p = l.findIdx? q := by
    induction l with
    | nil => rfl
    | cons x l ih => rw [List.findIdx?_cons, List.findIdx?_cons, h x (by simp), ih (fun y hy => h y (by simp [hy]))]
  rw [this]
theorem findP (h : TrsAt 89 97 w ts) : findI (qP ts part to) (ts.map TrS.ptr) = findI (sameT part to) (ts.map TrS.p) := by
  rw [findI_map, findI_map]; exact findI_congr fun x hx => qP_at h hx
theorem tr_at (k : Nat) (hk : k < ts.length) : ∃ t l1 l2, ts = l1 ++ t :: l2 ∧ l1.length = k ∧ ts[k]? = some t ∧ (ts.map TrS.ptr)[k]? = some (some (⟨t.blk, 0, none⟩ : Addr)) :=
  ⟨ts[k], ts.take k, ts.drop (k + 1), by rw [← List.drop_eq_getElem_cons hk, List.take_append_drop], by rw [List.length_take]; omega, List.getElem?_eq_getElem hk, by rw [List.getElem?_map, List.getElem?_eq_getElem hk]; rfl⟩
theorem tr_yes (h : 0 ≤ findI (sameT part to) (ts.map TrS.p)) : ∃ (k : Nat) (t : TrS Item) (l1 l2 : List (TrS Item)), findI (sameT part to) (ts.map TrS.p) = (k : Int) ∧ k < ts.length ∧ ts = l1 ++ t :: l2 ∧ l1.length = k ∧ ts[k]? = some t ∧ (ts.map TrS.ptr)[k]? = some (some (⟨t.blk, 0, none⟩ : Addr)) ∧
    sameT part to t.p = true ∧ (ts.map TrS.p).find? (sameT part to) = some t.p ∧ (ts.map TrS.p).findIdx? (sameT part to) = some k := by
  obtain ⟨k, hk, hkl, hkp, hkn⟩ := findI_some (p := sameT part to) (xs := ts.map TrS.p) rfl h
  rw [List.length_map] at hkl
  obtain ⟨t, l1, l2, h1, h2, h3, h4⟩ := tr_at k hkl
  have hst := hkp _ (p_get h3)
  exact ⟨k, t, l1, l2, hk, hkl, h1, h2, h3, h4, hst, find_at (p_get h3) hst hkn, findIdx_some (p_get h3) hst hkn⟩
theorem tr_no (h : findI (sameT part to) (ts.map TrS.p) < 0) : findI (sameT part to) (ts.map TrS.p) = -1 ∧ (ts.map TrS.p).find? (sameT part to) = none ∧ (ts.map TrS.p).findIdx? (sameT part to) = none := by
  have hno := findI_none (p := sameT part to) (xs := ts.map TrS.p) rfl h
  exact ⟨findI_no hno (Nat.le_refl _), find_no hno (Nat.le_refl _), findIdx_none hno (Nat.le_refl _)⟩
theorem done_eq (l : List Item) : l.isEmpty = decide (((l.length : Nat) : Int) = 0) := by cases l <;> simp <;> omega
theorem mem_tr (e : ts = l1 ++ t :: l2) : t ∈ ts := by subst e; simp
theorem left_in {pl : List (PTr Item)} {t : PTr Item} (h : pl.find? (sameT part to) = some t) : leftN pl part to = t.left.length ∧ doneB pl part to = t.left.isEmpty := by rw [leftN, doneB, h]; exact ⟨rfl, rfl⟩
theorem left_no {pl : List (PTr Item)} (h : pl.find? (sameT part to) = none) : leftN pl part to = 0 ∧ doneB pl part to = false := by rw [leftN, doneB, h]; exact ⟨rfl, rfl⟩
theorem openL_snoc {self : Int} {pl : List (PTr Item)} {i : Nat} {t : PTr Item} (h : pl[i]? = some t) : openL self (pl.take (i + 1)) = openL self (pl.take i) ++ (if t.left.isEmpty then [] else [⟨t.part, self, t.to⟩]) := by
  rw [take_snoc' h, openL, openL, List.filter_append, List.map_append]
  congr 1
  cases hl : t.left.isEmpty <;> simp [hl]
theorem openL_len {self : Int} {pl : List (PTr Item)} {i : Nat} : (openL self (pl.take i)).length ≤ i := by
  rw [openL, List.length_map]; exact Nat.le_trans (List.length_filter_le _ _) (List.length_take_le _ _)
end

theorem ty4 : Ty Try.prog 4 1 1 (.bool (false)) false := ty_of (by kernel_rfl) (by kernel_rfl)
theorem ty5 : Ty Try.prog 5 1 1 (.int .u8 (0)) false := ty_of (by kernel_rfl) (by kernel_rfl)
theorem ty9 : Ty Try.prog 9 1 16 (.string (⟨#[]⟩)) false := ty_of (by kernel_rfl) (by kernel_rfl)
theorem ty58 : Ty Try.prog 58 1 24 (.slice (none) (0) (0)) false := ty_of (by kernel_rfl) (by kernel_rfl)
theorem ty82 : Ty Try.prog 82 3 24 (.agg #[.int .i64 (0), .int .i64 (0), .int .i64 (0)]) true := ty_of (by kernel_rfl) (by kernel_rfl)
theorem ty87 : Ty Try.prog 87 1 24 (.slice (none) (0) (0)) false := ty_of (by kernel_rfl) (by kernel_rfl)
theorem ty90 : Ty Try.prog 90 1 8 (.pointer none) false := ty_of (by kernel_rfl) (by kernel_rfl)
theorem ty97 : Ty Try.prog 97 3 32 (.agg #[.string (⟨#[]⟩), .int .i64 (0), .int .i64 (0)]) true := ty_of (by kernel_rfl) (by kernel_rfl)
theorem en45 : Enters Try.prog 45 := enters_of Try.func45 rfl (by kernel_rfl)
theorem en49 : Enters Try.prog 49 := enters_of Try.func49 rfl (by kernel_rfl)
theorem en65 : Enters Try.prog 65 := enters_of Try.func65 rfl (by kernel_rfl)
theorem en66 : Enters Try.prog 66 := enters_of Try.func66 rfl (by kernel_rfl)
theorem en67 : Enters Try.prog 67 := enters_of Try.func67 rfl (by kernel_rfl)

set_option maxRecDepth 100000 in
set_option maxHeartbeats 4000000 in
theorem refIsKey (s : ByteArray) (w : World) (hl : s.size ≤ 4294967295) :
    Calls Try.prog 38 #[.string (s)] w (Ret (fun v w' => v = .bool (isKey s) ∧ Ext w w')) := by
  have hdl := dataLen s
  refine calls_run (n := 59) Try.func38 rfl rfl rfl ?_
  refine Run.seq ?_
  refine Run.region ?_
  refine RL.val (x_assignB rfl) ?_
  refine RL.nil ?_
  refine Run.seq ?_
  refine Run.seq ?_
  refine Run.region ?_
  refine RL.val (x_assignI rfl) ?_
  refine RL.nil ?_
  refine Run.block ?_
  refine Run.loop (ι := Nat) (fun i ρ' w' => Holds ρ' [(0, .string (s)), (3, .int .i64 (((i : Nat) : Int)))] ∧ Ext w w' ∧ (i ≤ s.size) ∧ (NoB badByte s.data.toList i)) (fun i => s.size - i) 0 ?_ ?_
  · refine ⟨⟨rfl, rfl, trivial⟩, (Keeps.refl _ w), ?_, ?_⟩
    · omega
    · exact NoB.zero _ _
  rintro i ρ_3 w_1 ⟨hH_2, K0, hi, hno⟩ ih1
  obtain ⟨ρ₀, rfl⟩ := hH_2.ex
  clear hH_2
  refine Run.seq ?_
  refine Run.seq ?_
  refine Run.region ?_
  refine RL.val (x_moveI rfl) ?_
  refine RL.val (x_moveS rfl) ?_
  refine RL.val (x_lenStr Try.underlying9 rfl) ?_
  refine RL.val (x_ltI rfl rfl) ?_
  refine RL.nil ?_
  refine Run.cond rfl (fun hc9 => ?_) (fun hc9 => ?_)
  · try simp only [br] at hc9
    refine Run.skip ?_
    refine Run.seq ?_
    refine Run.block ?_
    refine Run.seq ?_
    obtain ⟨c, hx⟩ := strAt s (i := i) (by omega)
    refine Run.region ?_
    refine RL.val (x_moveS rfl) ?_
    refine RL.val (x_moveI rfl) ?_
    refine RL.val (x_idxStrN Try.underlying9 rfl rfl hx) ?_
    refine RL.val (x_assignI rfl) ?_
    refine RL.nil ?_
    refine Run.seq ?_
    refine Run.region ?_
    refine RL.val (x_moveI rfl) ?_
    refine RL.val (x_geI rfl rfl) ?_
    refine RL.val (x_moveB rfl) ?_
    refine RL.gval (wantedT rfl rfl rfl rfl) (fun hg => (x_moveI rfl)) ?_
    refine RL.gval (wantedT rfl rfl rfl rfl) (fun hg => (x_leI (gvr hg) rfl)) ?_
    refine RL.val (x_and rfl rfl rfl) ?_
    refine RL.val (x_moveB rfl) ?_
    refine RL.gval (wantedF rfl rfl rfl rfl) (fun hg => (x_moveI rfl)) ?_
    refine RL.gval (wantedF rfl rfl rfl rfl) (fun hg => (x_geI (gvr hg) rfl)) ?_
    refine RL.gval (wantedF rfl rfl rfl rfl) (fun hg => (x_moveB (gvr hg))) ?_
    refine RL.gval (wantedGT rfl rfl rfl rfl) (fun hg => (x_moveI rfl)) ?_
    refine RL.gval (wantedGT rfl rfl rfl rfl) (fun hg => (x_leI (gvr hg) rfl)) ?_
    refine RL.gval (wantedF rfl rfl rfl rfl) (fun hg => (x_andG hg rfl rfl rfl)) ?_
    refine RL.val (x_or rfl rfl rfl) ?_
    refine RL.val (x_moveB rfl) ?_
    refine RL.gval (wantedF rfl rfl rfl rfl) (fun hg => (x_moveI rfl)) ?_
    refine RL.gval (wantedF rfl rfl rfl rfl) (fun hg => (x_geI (gvr hg) rfl)) ?_
    refine RL.gval (wantedF rfl rfl rfl rfl) (fun hg => (x_moveB (gvr hg))) ?_
    refine RL.gval (wantedGT rfl rfl rfl rfl) (fun hg => (x_moveI rfl)) ?_
    refine RL.gval (wantedGT rfl rfl rfl rfl) (fun hg => (x_leI (gvr hg) rfl)) ?_
    refine RL.gval (wantedF rfl rfl rfl rfl) (fun hg => (x_andG hg rfl rfl rfl)) ?_
    refine RL.val (x_or rfl rfl rfl) ?_
    refine RL.val (x_assignB rfl) ?_
    refine RL.nil ?_
    refine Run.seq ?_
    refine Run.region ?_
    refine RL.val (x_moveB rfl) ?_
    refine RL.val (x_not rfl) ?_
    refine RL.val (x_moveB rfl) ?_
    refine RL.gval (wantedT rfl rfl rfl rfl) (fun hg => (x_moveI rfl)) ?_
    refine RL.gval (wantedT rfl rfl rfl rfl) (fun hg => (x_neI (gvr hg) rfl)) ?_
    refine RL.val (x_and rfl rfl rfl) ?_
    refine RL.val (x_moveB rfl) ?_
    refine RL.gval (wantedT rfl rfl rfl rfl) (fun hg => (x_moveI rfl)) ?_
    refine RL.gval (wantedT rfl rfl rfl rfl) (fun hg => (x_neI (gvr hg) rfl)) ?_
    refine RL.val (x_and rfl rfl rfl) ?_
    refine RL.val (x_moveB rfl) ?_
    refine RL.gval (wantedT rfl rfl rfl rfl) (fun hg => (x_moveI rfl)) ?_
    refine RL.gval (wantedT rfl rfl rfl rfl) (fun hg => (x_neI (gvr hg) rfl)) ?_
    refine RL.val (x_and rfl rfl rfl) ?_
    refine RL.nil ?_
    refine Run.cond rfl (fun hc50 => ?_) (fun hc50 => ?_)
    · try simp only [br] at hc50
      refine Run.seq ?_
      refine Run.region ?_
      refine RL.val (x_assignB rfl) ?_
      refine RL.nil ?_
      refine Run.ret1 (v := .bool (false)) Try.func38 rfl rfl ?_
      exact ⟨_, rfl, by rw [isKey, any_at hx (by simp only [badByte, decide_eq_true_eq]; omega)]; rfl, K0⟩
    · try simp only [br] at hc50
      refine Run.skip ?_
      refine Run.inBlock ?_
      refine Run.region ?_
      refine RL.val (x_moveI rfl) ?_
      refine RL.val (litI (c := ((i + 1 : Nat) : Int)) (x_add rfl rfl (by omega) (by omega)) rfl) ?_
      refine RL.val (x_assignI rfl) ?_
      refine RL.nil ?_
      refine ih1 (i + 1) _ _ ?_ (by omega)
      refine ⟨⟨rfl, rfl, trivial⟩, K0, ?_, ?_⟩
      · omega
      · exact hno.step hx (by simp only [badByte, decide_eq_false_iff_not]; omega)
  · try simp only [br] at hc9
    refine Run.exit rfl ?_
    refine Run.seq ?_
    refine Run.region ?_
    refine RL.val (x_moveS rfl) ?_
    refine RL.val (x_lenStr Try.underlying9 rfl) ?_
    refine RL.val (x_geI rfl rfl) ?_
    refine RL.val (x_moveB rfl) ?_
    refine RL.gval (wantedT rfl rfl rfl rfl) (fun hg => (x_moveS rfl)) ?_
    refine RL.gval (wantedT rfl rfl rfl rfl) (fun hg => (x_lenStr Try.underlying9 (gvr hg))) ?_
    refine RL.gval (wantedT rfl rfl rfl rfl) (fun hg => (x_leI (gvr hg) rfl)) ?_
    refine RL.val (x_and rfl rfl rfl) ?_
    refine RL.val (x_assignB rfl) ?_
    refine RL.nil ?_
    refine Run.ret1 (v := .bool ((decide (1 ≤ (((s).size : Nat) : Int))) && (decide ((((s).size : Nat) : Int) ≤ 32)))) Try.func38 rfl rfl ?_
    exact ⟨_, rfl, by rw [isKey, any_no hno (by rw [dataLen]; omega)]; rfl, K0⟩

set_option maxRecDepth 100000 in
set_option maxHeartbeats 4000000 in
theorem isKeyP (s : ByteArray) (w : World) (hl : s.size ≤ 4294967295) :
    Calls Try.prog 44 #[.string (s)] w (Ret (fun v w' => v = .bool (isKey s) ∧ Ext w w')) := by
  have hdl := dataLen s
  refine calls_run (n := 54) Try.func44 rfl rfl rfl ?_
  refine Run.seq ?_
  refine Run.region ?_
  refine RL.val (x_assignB rfl) ?_
  refine RL.nil ?_
  refine Run.seq ?_
  refine Run.seq ?_
  refine Run.region ?_
  refine RL.val (x_moveS rfl) ?_
  refine RL.st rfl <| St1.bytes Try.underlying9 Try.underlying120 Try.underlying5 rfl ?_
  intro b_1 c_2 w_3 hl_4 hs_5 K_6
  have K0 := (K_6 : Ext w _)
  refine RL.val (x_lenSl Try.underlying120 rfl) ?_
  refine RL.val (x_moveI rfl) ?_
  refine RL.nil ?_
  refine Run.block ?_
  refine Run.loop (ι := Nat) (fun i ρ' w' => Holds ρ' [(0, .string (s)), (6, .slice (some ⟨b_1, 0, none⟩) ((s).data.toList.length) (c_2)), (7, .int .i64 ((((s).data.toList.length : Nat) : Int))), (8, .int .i64 (((i : Nat) : Int)))] ∧ Ext w w' ∧ (SlOf w' (some ⟨b_1, 0, none⟩) ((s).data.toList)) ∧ (i ≤ s.size) ∧ (NoB badByte s.data.toList i)) (fun i => s.size - i) 0 ?_ ?_
  · refine ⟨⟨rfl, rfl, rfl, rfl, trivial⟩, K0, hs_5, ?_, ?_⟩
    · omega
    · exact NoB.zero _ _
  clear K0
  rintro i ρ_9 w_7 ⟨hH_8, K0, hs_5, hi, hno⟩ ih1
  obtain ⟨ρ₀, rfl⟩ := hH_8.ex
  clear hH_8
  refine Run.seq ?_
  refine Run.region ?_
  refine RL.val (x_ltI rfl rfl) ?_
  refine RL.nil ?_
  refine Run.seq ?_
  refine Run.cond rfl (fun hc9 => ?_) (fun hc9 => ?_)
  · try simp only [br] at hc9
    refine Run.skip ?_
    refine Run.seq ?_
    refine Run.block ?_
    refine Run.seq ?_
    refine Run.region ?_
    obtain ⟨b_10, o_11, c, hx, ha_12, hc_13⟩ := hs_5.el (i := i) (by rw [dataLen]; omega)
    refine RL.val (x_idxN Try.underlying120 ty5 rfl rfl ha_12 (by rw [dataLen]; omega)) ?_
    refine RL.val (x_ldV (v := .int .u8 (((c).toNat : Int))) (y := c) ty5 rfl hc_13 rfl) ?_
    refine RL.val (x_assignI rfl) ?_
    refine RL.nil ?_
    refine Run.seq ?_
    refine Run.region ?_
    refine RL.val (x_moveI rfl) ?_
    refine RL.val (x_neI rfl rfl) ?_
    refine RL.val (x_moveB rfl) ?_
    refine RL.gval (wantedT rfl rfl rfl rfl) (fun hg => (x_moveI rfl)) ?_
    refine RL.gval (wantedT rfl rfl rfl rfl) (fun hg => (x_neI (gvr hg) rfl)) ?_
    refine RL.val (x_and rfl rfl rfl) ?_
    refine RL.val (x_moveB rfl) ?_
    refine RL.gval (wantedT rfl rfl rfl rfl) (fun hg => (x_moveI rfl)) ?_
    refine RL.gval (wantedT rfl rfl rfl rfl) (fun hg => (x_neI (gvr hg) rfl)) ?_
    refine RL.val (x_and rfl rfl rfl) ?_
    refine RL.val (x_moveB rfl) ?_
    refine RL.gval (wantedT rfl rfl rfl rfl) (fun hg => (x_moveI rfl)) ?_
    refine RL.gval (wantedT rfl rfl rfl rfl) (fun hg => (x_ltI (gvr hg) rfl)) ?_
    refine RL.gval (wantedT rfl rfl rfl rfl) (fun hg => (x_moveB (gvr hg))) ?_
    refine RL.gval (wantedGF rfl rfl rfl rfl) (fun hg => (x_moveI rfl)) ?_
    refine RL.gval (wantedGF rfl rfl rfl rfl) (fun hg => (x_gtI (gvr hg) rfl)) ?_
    refine RL.gval (wantedT rfl rfl rfl rfl) (fun hg => (x_orG hg rfl rfl rfl)) ?_
    refine RL.val (x_and rfl rfl rfl) ?_
    refine RL.val (x_moveB rfl) ?_
    refine RL.gval (wantedT rfl rfl rfl rfl) (fun hg => (x_moveI rfl)) ?_
    refine RL.gval (wantedT rfl rfl rfl rfl) (fun hg => (x_ltI (gvr hg) rfl)) ?_
    refine RL.gval (wantedT rfl rfl rfl rfl) (fun hg => (x_moveB (gvr hg))) ?_
    refine RL.gval (wantedGF rfl rfl rfl rfl) (fun hg => (x_moveI rfl)) ?_
    refine RL.gval (wantedGF rfl rfl rfl rfl) (fun hg => (x_gtI (gvr hg) rfl)) ?_
    refine RL.gval (wantedT rfl rfl rfl rfl) (fun hg => (x_orG hg rfl rfl rfl)) ?_
    refine RL.val (x_and rfl rfl rfl) ?_
    refine RL.val (x_moveB rfl) ?_
    refine RL.gval (wantedT rfl rfl rfl rfl) (fun hg => (x_moveI rfl)) ?_
    refine RL.gval (wantedT rfl rfl rfl rfl) (fun hg => (x_ltI (gvr hg) rfl)) ?_
    refine RL.gval (wantedT rfl rfl rfl rfl) (fun hg => (x_moveB (gvr hg))) ?_
    refine RL.gval (wantedGF rfl rfl rfl rfl) (fun hg => (x_moveI rfl)) ?_
    refine RL.gval (wantedGF rfl rfl rfl rfl) (fun hg => (x_gtI (gvr hg) rfl)) ?_
    refine RL.gval (wantedT rfl rfl rfl rfl) (fun hg => (x_orG hg rfl rfl rfl)) ?_
    refine RL.val (x_and rfl rfl rfl) ?_
    refine RL.nil ?_
    refine Run.cond rfl (fun hc45 => ?_) (fun hc45 => ?_)
    · try simp only [br] at hc45
      refine Run.seq ?_
      refine Run.region ?_
      refine RL.val (x_assignB rfl) ?_
      refine RL.nil ?_
      refine Run.ret1 (v := .bool (false)) Try.func44 rfl rfl ?_
      exact ⟨_, rfl, by rw [isKey, any_at hx (by simp only [badByte, decide_eq_true_eq]; omega)]; rfl, K0⟩
    · try simp only [br] at hc45
      refine Run.skip ?_
      refine Run.inBlock ?_
      refine Run.region ?_
      refine RL.val (litI (c := ((i + 1 : Nat) : Int)) (x_add rfl rfl (by omega) (by omega)) rfl) ?_
      refine RL.val (x_moveI rfl) ?_
      refine RL.nil ?_
      refine ih1 (i + 1) _ _ ?_ (by omega)
      refine ⟨⟨rfl, rfl, rfl, rfl, trivial⟩, K0, hs_5, ?_, ?_⟩
      · omega
      · exact hno.step hx (by simp only [badByte, decide_eq_false_iff_not]; omega)
  · try simp only [br] at hc9
    refine Run.exit rfl ?_
    refine Run.seq ?_
    refine Run.region ?_
    refine RL.val (x_moveS rfl) ?_
    refine RL.val (x_neS rfl rfl) ?_
    refine RL.val (x_moveB rfl) ?_
    refine RL.gval (wantedT rfl rfl rfl rfl) (fun hg => (x_moveS rfl)) ?_
    refine RL.gval (wantedT rfl rfl rfl rfl) (fun hg => (x_lenStr Try.underlying9 (gvr hg))) ?_
    refine RL.gval (wantedT rfl rfl rfl rfl) (fun hg => (x_leI (gvr hg) rfl)) ?_
    refine RL.val (x_and rfl rfl rfl) ?_
    refine RL.val (x_assignB rfl) ?_
    refine RL.nil ?_
    refine Run.ret1 (v := .bool ((!decide (s = ⟨#[]⟩)) && (decide ((((s).size : Nat) : Int) ≤ 32)))) Try.func44 rfl rfl ?_
    exact ⟨_, rfl, by rw [isKey, any_no hno (by rw [dataLen]; omega), keyEnd], K0⟩

set_option maxRecDepth 100000 in
set_option maxHeartbeats 4000000 in
theorem indexFunc_tr (a : Option Addr) (xs : List (Option Addr)) (c : Nat) (gf : FuncId) (caps : List Value) (q : (Option Addr) → Bool) (hen : Enters Try.prog gf) (w : World) (hs : SlOf w a xs) (hl : xs.length ≤ 4294967295) (hq : ∀ x ∈ xs, ∀ w', Ext w w' → Calls Try.prog gf (Enc.val x :: caps).toArray w' (Ret fun v w'' => v = .bool (q x) ∧ Ext w' w'')) :
    Calls Try.prog 66 #[.slice (a) (xs.length) (c), .func (.func gf) #[] caps.toArray] w (Ret (fun v w' => v = .int .i64 (findI q xs) ∧ Ext w w')) := by
  refine calls_run (n := 19) Try.func66 rfl rfl rfl ?_
  refine Run.seq ?_
  refine Run.region ?_
  refine RL.val (x_assignI rfl) ?_
  refine RL.nil ?_
  refine Run.seq ?_
  refine Run.seq ?_
  refine Run.region ?_
  refine RL.val (x_moveSl rfl) ?_
  refine RL.val (x_lenSl Try.underlying58 rfl) ?_
  refine RL.val (x_moveI rfl) ?_
  refine RL.nil ?_
  refine Run.block ?_
  refine Run.loop (ι := Nat) (fun i ρ' w' => Holds ρ' [(0, .slice (a) (xs.length) (c)), (1, .func (.func gf) #[] caps.toArray), (7, .int .i64 (((xs.length : Nat) : Int))), (8, .int .i64 (((i : Nat) : Int)))] ∧ Ext w w' ∧ (i ≤ xs.length) ∧ (NoB q xs i)) (fun i => xs.length - i) 0 ?_ ?_
  · refine ⟨⟨rfl, rfl, rfl, rfl, trivial⟩, (Keeps.refl _ w), ?_, ?_⟩
    · omega
    · exact NoB.zero _ _
  rintro i ρ_3 w_1 ⟨hH_2, K0, hi, hno⟩ ih1
  obtain ⟨ρ₀, rfl⟩ := hH_2.ex
  clear hH_2
  refine Run.seq ?_
  refine Run.region ?_
  refine RL.val (x_ltI rfl rfl) ?_
  refine RL.nil ?_
  refine Run.seq ?_
  refine Run.cond rfl (fun hc9 => ?_) (fun hc9 => ?_)
  · try simp only [br] at hc9
    refine Run.skip ?_
    refine Run.seq ?_
    refine Run.block ?_
    refine Run.seq ?_
    refine Run.region ?_
    refine RL.val (x_moveI rfl) ?_
    refine RL.val (x_assignI rfl) ?_
    refine RL.nil ?_
    refine Run.seq ?_
    refine Run.region ?_
    refine RL.val (x_moveF rfl) ?_
    refine RL.val (x_moveSl rfl) ?_
    refine RL.val (x_moveI rfl) ?_
    obtain ⟨b_4, o_5, e, hx, ha_6, hc_7⟩ := hs.el (i := i) (by first | omega | (simp only [List.length_set]; omega))
    have hc_7_lt := hc_7.lt
    replace hc_7 := hc_7.ext K0
    refine RL.val (x_idxN Try.underlying58 ty90 rfl rfl ha_6 (by first | omega | (simp only [List.length_set]; omega))) ?_
    refine RL.val (x_ldV (v := .pointer (e)) (y := e) ty90 rfl hc_7 rfl) ?_
    refine RL.st rfl <| St1.callV (first := []) (vals := .pointer (e) :: caps) hen rfl rfl (hq e (mem_of_at hx) _ K0) ?_
    rintro _ w_10 ⟨rfl, K_11⟩
    replace hc_7 := hc_7.ext K_11
    replace K0 := K0.ext K_11
    refine RL.nil ?_
    refine Run.cond rfl (fun hc16 => ?_) (fun hc16 => ?_)
    · skip
      refine Run.seq ?_
      refine Run.region ?_
      refine RL.val (x_moveI rfl) ?_
      refine RL.val (x_assignI rfl) ?_
      refine RL.nil ?_
      refine Run.ret1 (v := .int .i64 (((i : Nat) : Int))) Try.func66 rfl rfl ?_
      exact ⟨_, rfl, by rw [findI_at hx hc16 hno], K0⟩
    · skip
      refine Run.skip ?_
      refine Run.inBlock ?_
      refine Run.region ?_
      refine RL.val (litI (c := ((i + 1 : Nat) : Int)) (x_add rfl rfl (by omega) (by omega)) rfl) ?_
      refine RL.val (x_moveI rfl) ?_
      refine RL.nil ?_
      refine ih1 (i + 1) _ _ ?_ (by omega)
      refine ⟨⟨rfl, rfl, rfl, rfl, trivial⟩, K0, ?_, ?_⟩
      · omega
      · exact hno.step hx hc16
  · try simp only [br] at hc9
    refine Run.exit rfl ?_
    refine Run.seq ?_
    refine Run.region ?_
    refine RL.val (x_assignI rfl) ?_
    refine RL.nil ?_
    refine Run.ret1 (v := .int .i64 (-1)) Try.func66 rfl rfl ?_
    exact ⟨_, rfl, by rw [findI_no hno (by omega)], K0⟩

set_option maxRecDepth 100000 in
set_option maxHeartbeats 4000000 in
theorem indexFunc_item (a : Option Addr) (xs : List Item) (c : Nat) (gf : FuncId) (caps : List Value) (q : Item → Bool) (hen : Enters Try.prog gf) (w : World) (hs : SlOf w a xs) (hl : xs.length ≤ 4294967295) (hq : ∀ x ∈ xs, ∀ w', Ext w w' → Calls Try.prog gf (Enc.val x :: caps).toArray w' (Ret fun v w'' => v = .bool (q x) ∧ Ext w' w'')) :
    Calls Try.prog 51 #[.slice (a) (xs.length) (c), .func (.func gf) #[] caps.toArray] w (Ret (fun v w' => v = .int .i64 (findI q xs) ∧ Ext w w')) := by
  refine calls_run (n := 19) Try.func51 rfl rfl rfl ?_
  refine Run.seq ?_
  refine Run.region ?_
  refine RL.val (x_assignI rfl) ?_
  refine RL.nil ?_
  refine Run.seq ?_
  refine Run.seq ?_
  refine Run.region ?_
  refine RL.val (x_moveSl rfl) ?_
  refine RL.val (x_lenSl Try.underlying87 rfl) ?_
  refine RL.val (x_moveI rfl) ?_
  refine RL.nil ?_
  refine Run.block ?_
  refine Run.loop (ι := Nat) (fun i ρ' w' => Holds ρ' [(0, .slice (a) (xs.length) (c)), (1, .func (.func gf) #[] caps.toArray), (7, .int .i64 (((xs.length : Nat) : Int))), (8, .int .i64 (((i : Nat) : Int)))] ∧ Ext w w' ∧ (i ≤ xs.length) ∧ (NoB q xs i)) (fun i => xs.length - i) 0 ?_ ?_
  · refine ⟨⟨rfl, rfl, rfl, rfl, trivial⟩, (Keeps.refl _ w), ?_, ?_⟩
    · omega
    · exact NoB.zero _ _
  rintro i ρ_3 w_1 ⟨hH_2, K0, hi, hno⟩ ih1
  obtain ⟨ρ₀, rfl⟩ := hH_2.ex
  clear hH_2
  refine Run.seq ?_
  refine Run.region ?_
  refine RL.val (x_ltI rfl rfl) ?_
  refine RL.nil ?_
  refine Run.seq ?_
  refine Run.cond rfl (fun hc9 => ?_) (fun hc9 => ?_)
  · try simp only [br] at hc9
    refine Run.skip ?_
    refine Run.seq ?_
    refine Run.block ?_
    refine Run.seq ?_
    refine Run.region ?_
    refine RL.val (x_moveI rfl) ?_
    refine RL.val (x_assignI rfl) ?_
    refine RL.nil ?_
    refine Run.seq ?_
    refine Run.region ?_
    refine RL.val (x_moveF rfl) ?_
    refine RL.val (x_moveSl rfl) ?_
    refine RL.val (x_moveI rfl) ?_
    obtain ⟨b_4, o_5, e, hx, ha_6, hc_7⟩ := hs.el (i := i) (by first | omega | (simp only [List.length_set]; omega))
    have hc_7_lt := hc_7.lt
    replace hc_7 := hc_7.ext K0
    refine RL.val (x_idxN Try.underlying87 ty97 rfl rfl ha_6 (by first | omega | (simp only [List.length_set]; omega))) ?_
    refine RL.val (x_ldV (v := .agg #[.string ((e).key), .int .i64 ((e).req), .int .i64 ((e).since)]) (y := e) ty97 rfl hc_7 rfl) ?_
    refine RL.st rfl <| St1.callV (first := []) (vals := .agg #[.string ((e).key), .int .i64 ((e).req), .int .i64 ((e).since)] :: caps) hen rfl rfl (hq e (mem_of_at hx) _ K0) ?_
    rintro _ w_10 ⟨rfl, K_11⟩
    replace hc_7 := hc_7.ext K_11
    replace K0 := K0.ext K_11
    refine RL.nil ?_
    refine Run.cond rfl (fun hc16 => ?_) (fun hc16 => ?_)
    · skip
      refine Run.seq ?_
      refine Run.region ?_
      refine RL.val (x_moveI rfl) ?_
      refine RL.val (x_assignI rfl) ?_
      refine RL.nil ?_
      refine Run.ret1 (v := .int .i64 (((i : Nat) : Int))) Try.func51 rfl rfl ?_
      exact ⟨_, rfl, by rw [findI_at hx hc16 hno], K0⟩
    · skip
      refine Run.skip ?_
      refine Run.inBlock ?_
      refine Run.region ?_
      refine RL.val (litI (c := ((i + 1 : Nat) : Int)) (x_add rfl rfl (by omega) (by omega)) rfl) ?_
      refine RL.val (x_moveI rfl) ?_
      refine RL.nil ?_
      refine ih1 (i + 1) _ _ ?_ (by omega)
      refine ⟨⟨rfl, rfl, rfl, rfl, trivial⟩, K0, ?_, ?_⟩
      · omega
      · exact hno.step hx hc16
  · try simp only [br] at hc9
    refine Run.exit rfl ?_
    refine Run.seq ?_
    refine Run.region ?_
    refine RL.val (x_assignI rfl) ?_
    refine RL.nil ?_
    refine Run.ret1 (v := .int .i64 (-1)) Try.func51 rfl rfl ?_
    exact ⟨_, rfl, by rw [findI_no hno (by omega)], K0⟩

set_option maxRecDepth 100000 in
set_option maxHeartbeats 4000000 in
theorem equal_str (a : Option Addr) (xs : List ByteArray) (c : Nat) (d : Option Addr) (ys : List ByteArray) (e : Nat) (w : World) (hs : SlOf w a xs) (ht : SlOf w d ys) (hl : xs.length ≤ 4294967295) :
    Calls Try.prog 27 #[.slice (a) (xs.length) (c), .slice (d) (ys.length) (e)] w (Ret (fun v w' => v = .bool (decide (xs = ys)) ∧ Ext w w')) := by
  refine calls_run (n := 26) Try.func27 rfl rfl rfl ?_
  refine Run.seq ?_
  refine Run.region ?_
  refine RL.val (x_assignB rfl) ?_
  refine RL.nil ?_
  refine Run.seq ?_
  refine Run.seq ?_
  refine Run.region ?_
  refine RL.val (x_moveSl rfl) ?_
  refine RL.val (x_lenSl Try.underlying22 rfl) ?_
  refine RL.val (x_moveSl rfl) ?_
  refine RL.val (x_lenSl Try.underlying22 rfl) ?_
  refine RL.val (x_neI rfl rfl) ?_
  refine RL.nil ?_
  refine Run.cond rfl (fun hc10 => ?_) (fun hc10 => ?_)
  · try simp only [br] at hc10
    refine Run.seq ?_
    refine Run.region ?_
    refine RL.val (x_assignB rfl) ?_
    refine RL.nil ?_
    refine Run.ret1 (v := .bool (false)) Try.func27 rfl rfl ?_
    exact ⟨_, rfl, by rw [decide_eq_false (fun h => hc10 (by rw [h]))], (Keeps.refl _ w)⟩
  · try simp only [br] at hc10
    have hlen : xs.length = ys.length := by omega
    refine Run.skip ?_
    refine Run.seq ?_
    refine Run.seq ?_
    refine Run.region ?_
    refine RL.val (x_moveSl rfl) ?_
    refine RL.val (x_lenSl Try.underlying22 rfl) ?_
    refine RL.val (x_moveI rfl) ?_
    refine RL.nil ?_
    refine Run.block ?_
    refine Run.loop (ι := Nat) (fun i ρ' w' => Holds ρ' [(0, .slice (a) (xs.length) (c)), (1, .slice (d) (ys.length) (e)), (12, .int .i64 (((xs.length : Nat) : Int))), (13, .int .i64 (((i : Nat) : Int)))] ∧ Ext w w' ∧ (i ≤ xs.length) ∧ (SameB xs ys i)) (fun i => xs.length - i) 0 ?_ ?_
    · refine ⟨⟨rfl, rfl, rfl, rfl, trivial⟩, (Keeps.refl _ w), ?_, ?_⟩
      · omega
      · exact SameB.zero _ _
    rintro i ρ_3 w_1 ⟨hH_2, K0, hi, hno⟩ ih1
    obtain ⟨ρ₀, rfl⟩ := hH_2.ex
    clear hH_2
    refine Run.seq ?_
    refine Run.region ?_
    refine RL.val (x_ltI rfl rfl) ?_
    refine RL.nil ?_
    refine Run.seq ?_
    refine Run.cond rfl (fun hc14 => ?_) (fun hc14 => ?_)
    · try simp only [br] at hc14
      refine Run.skip ?_
      refine Run.seq ?_
      refine Run.block ?_
      refine Run.seq ?_
      refine Run.region ?_
      refine RL.val (x_moveI rfl) ?_
      refine RL.val (x_assignI rfl) ?_
      refine RL.nil ?_
      refine Run.seq ?_
      obtain ⟨b_6, o_7, x, hx, ha_8, hc_9⟩ := hs.el (i := i) (by first | omega | (simp only [List.length_set]; omega))
      have hc_9_lt := hc_9.lt
      replace hc_9 := hc_9.ext K0
      obtain ⟨b_12, o_13, y, hy, ha_14, hc_15⟩ := ht.el (i := i) (by first | omega | (simp only [List.length_set]; omega))
      have hc_15_lt := hc_15.lt
      replace hc_15 := hc_15.ext K0
      refine Run.draw' (m := 9) (by kernel_rfl) rfl ?_
      intro w_4 K_5
      replace hc_9 := hc_9.ext K_5
      replace hc_15 := hc_15.ext K_5
      replace K0 := K0.ext K_5
      refine RA.take (v := .slice (a) (xs.length) (c)) 0 rfl (by kernel_rfl) rfl (by rintro _ rfl; exact (x_moveSl rfl)) ?_
      refine RA.take (v := .int .i64 (((i : Nat) : Int))) 1 rfl (by kernel_rfl) rfl (by rintro _ rfl; exact (x_moveI rfl)) ?_
      refine RA.take (v := .pointer (some ⟨b_6, o_7 + i * 1, none⟩)) 2 rfl (by kernel_rfl) rfl (by rintro _ rfl; exact (x_idxN Try.underlying22 ty9 rfl rfl ha_8 (by first | omega | (simp only [List.length_set]; omega)))) ?_
      refine RA.take (v := .string (x)) 3 rfl (by kernel_rfl) rfl (by rintro _ rfl; exact (x_ldV (v := .string (x)) (y := x) ty9 rfl hc_9 rfl)) ?_
      refine RA.take (v := .slice (d) (ys.length) (e)) 4 rfl (by kernel_rfl) rfl (by rintro _ rfl; exact (x_moveSl rfl)) ?_
      refine RA.take (v := .int .i64 (((i : Nat) : Int))) 5 rfl (by kernel_rfl) rfl (by rintro _ rfl; exact (x_moveI rfl)) ?_
      refine RA.take (v := .pointer (some ⟨b_12, o_13 + i * 1, none⟩)) 6 rfl (by kernel_rfl) rfl (by rintro _ rfl; exact (x_idxN Try.underlying22 ty9 rfl rfl ha_14 (by first | omega | (simp only [List.length_set]; omega)))) ?_
      refine RA.take (v := .string (y)) 7 rfl (by kernel_rfl) rfl (by rintro _ rfl; exact (x_ldV (v := .string (y)) (y := y) ty9 rfl hc_15 rfl)) ?_
      refine RA.take (v := .bool (!decide (x = y))) 8 rfl (by kernel_rfl) rfl (by rintro _ rfl; exact (x_neS rfl rfl)) ?_
      refine RA.done (by kernel_rfl) ?_
      refine Run.cond rfl (fun hc24 => ?_) (fun hc24 => ?_)
      · try simp only [br] at hc24
        refine Run.seq ?_
        refine Run.region ?_
        refine RL.val (x_assignB rfl) ?_
        refine RL.nil ?_
        refine Run.ret1 (v := .bool (false)) Try.func27 rfl rfl ?_
        exact ⟨_, rfl, by rw [decide_eq_false (ne_of_at hx hy hc24)], K0⟩
      · try simp only [br] at hc24
        refine Run.skip ?_
        refine Run.inBlock ?_
        refine Run.region ?_
        refine RL.val (litI (c := ((i + 1 : Nat) : Int)) (x_add rfl rfl (by omega) (by omega)) rfl) ?_
        refine RL.val (x_moveI rfl) ?_
        refine RL.nil ?_
        refine ih1 (i + 1) _ _ ?_ (by omega)
        refine ⟨⟨rfl, rfl, rfl, rfl, trivial⟩, K0, ?_, ?_⟩
        · omega
        · exact hno.step hx hy hc24
    · try simp only [br] at hc14
      refine Run.exit rfl ?_
      refine Run.seq ?_
      refine Run.region ?_
      refine RL.val (x_assignB rfl) ?_
      refine RL.nil ?_
      refine Run.ret1 (v := .bool (true)) Try.func27 rfl rfl ?_
      exact ⟨_, rfl, by rw [decide_eq_true (hno.all hlen (by omega))], K0⟩

set_option maxRecDepth 100000 in
set_option maxHeartbeats 4000000 in
theorem clone_str (a : Option Addr) (xs : List ByteArray) (c : Nat) (w : World) (hs : SlOf w a xs) (hl : xs.length ≤ 4294967295) :
    Calls Try.prog 12 #[.slice (a) (xs.length) (c)] w (Ret (fun v w' => ∃ a' c', v = .slice a' xs.length c' ∧ OwnSl w' 9 a' c' xs ∧ (∀ b, own a' b → w.heap.size ≤ b) ∧ Ext w w')) := by
  refine calls_run (n := 8) Try.func12 rfl rfl rfl ?_
  refine Run.seq ?_
  refine Run.region ?_
  refine RL.val (x_assignSl rfl) ?_
  refine RL.nil ?_
  refine Run.seq ?_
  refine Run.seq ?_
  refine Run.region ?_
  refine RL.val (x_moveSl rfl) ?_
  refine RL.val (x_slNil Try.underlying22 rfl rfl) ?_
  refine RL.nil ?_
  refine Run.cond rfl (fun hc4 => ?_) (fun hc4 => ?_)
  · skip
    refine Run.seq ?_
    refine Run.region ?_
    refine RL.val (x_assignSl rfl) ?_
    refine RL.nil ?_
    refine Run.ret1 (v := .slice (none) (0) (0)) Try.func12 rfl rfl ?_
    have hx := hs.nil_of hc4; subst hx; exact ⟨_, rfl, none, 0, rfl, OwnSl.nil _ _, fun b h => absurd h (own_none b), (Keeps.refl _ w)⟩
  · skip
    refine Run.skip ?_
    refine Run.seq ?_
    refine Run.region ?_
    refine RL.st rfl <| St1.buildSlice ([] : List ByteArray) Try.underlying22 ty9 rfl rfl (by first | decide | (simp [Enc.size])) ?_
    intro b_1 w_2 hl_5 ho_4 K_3
    have pg_6 : ∀ q_, own (some ⟨b_1, 0, none⟩) q_ → w.heap.size ≤ q_ := fun q_ h => Nat.le_trans (Nat.le_refl _) ((ge_new hl_5) q_ h)
    clear hl_5
    have K0 := (K_3 : Ext w _)
    refine RL.val (x_moveSl rfl) ?_
    refine RL.st rfl <| St1.append (xs := ([] : List ByteArray)) (ys := xs) Try.underlying22 ty9 rfl rfl rfl ho_4 (hs.ext K0) (by first | omega | (simp only [lr]; omega)) (by decide) ?_
    intro a_7 c_8 w_9 ho_10 K_11 hm_12 hrm_13
    have pg_14 : ∀ q_, own a_7 q_ → w.heap.size ≤ q_ := hm_12.ge pg_6 K0.size
    replace K0 := K0.new K_11 pg_6
    clear hm_12
    clear hrm_13
    refine RL.val (x_assignSl rfl) ?_
    refine RL.nil ?_
    refine Run.ret1 (v := .slice (a_7) ((([] : List ByteArray) ++ xs).length) (c_8)) Try.func12 rfl rfl ?_
    exact ⟨_, rfl, a_7, c_8, by rw [List.nil_append], by simpa using ho_10, pg_14, K0⟩

set_option maxRecDepth 100000 in
set_option maxHeartbeats 4000000 in
theorem indexFunc_str (a : Option Addr) (xs : List ByteArray) (c : Nat) (gf : FuncId) (caps : List Value) (q : ByteArray → Bool) (hen : Enters Try.prog gf) (w : World) (hs : SlOf w a xs) (hl : xs.length ≤ 4294967295) (hq : ∀ x ∈ xs, ∀ w', Ext w w' → Calls Try.prog gf (Enc.val x :: caps).toArray w' (Ret fun v w'' => v = .bool (q x) ∧ Ext w' w'')) :
    Calls Try.prog 65 #[.slice (a) (xs.length) (c), .func (.func gf) #[] caps.toArray] w (Ret (fun v w' => v = .int .i64 (findI q xs) ∧ Ext w w')) := by
  refine calls_run (n := 19) Try.func65 rfl rfl rfl ?_
  refine Run.seq ?_
  refine Run.region ?_
  refine RL.val (x_assignI rfl) ?_
  refine RL.nil ?_
  refine Run.seq ?_
  refine Run.seq ?_
  refine Run.region ?_
  refine RL.val (x_moveSl rfl) ?_
  refine RL.val (x_lenSl Try.underlying22 rfl) ?_
  refine RL.val (x_moveI rfl) ?_
  refine RL.nil ?_
  refine Run.block ?_
  refine Run.loop (ι := Nat) (fun i ρ' w' => Holds ρ' [(0, .slice (a) (xs.length) (c)), (1, .func (.func gf) #[] caps.toArray), (7, .int .i64 (((xs.length : Nat) : Int))), (8, .int .i64 (((i : Nat) : Int)))] ∧ Ext w w' ∧ (i ≤ xs.length) ∧ (NoB q xs i)) (fun i => xs.length - i) 0 ?_ ?_
  · refine ⟨⟨rfl, rfl, rfl, rfl, trivial⟩, (Keeps.refl _ w), ?_, ?_⟩
    · omega
    · exact NoB.zero _ _
  rintro i ρ_3 w_1 ⟨hH_2, K0, hi, hno⟩ ih1
  obtain ⟨ρ₀, rfl⟩ := hH_2.ex
  clear hH_2
  refine Run.seq ?_
  refine Run.region ?_
  refine RL.val (x_ltI rfl rfl) ?_
  refine RL.nil ?_
  refine Run.seq ?_
  refine Run.cond rfl (fun hc9 => ?_) (fun hc9 => ?_)
  · try simp only [br] at hc9
    refine Run.skip ?_
    refine Run.seq ?_
    refine Run.block ?_
    refine Run.seq ?_
    refine Run.region ?_
    refine RL.val (x_moveI rfl) ?_
    refine RL.val (x_assignI rfl) ?_
    refine RL.nil ?_
    refine Run.seq ?_
    refine Run.region ?_
    refine RL.val (x_moveF rfl) ?_
    refine RL.val (x_moveSl rfl) ?_
    refine RL.val (x_moveI rfl) ?_
    obtain ⟨b_4, o_5, e, hx, ha_6, hc_7⟩ := hs.el (i := i) (by first | omega | (simp only [List.length_set]; omega))
    have hc_7_lt := hc_7.lt
    replace hc_7 := hc_7.ext K0
    refine RL.val (x_idxN Try.underlying22 ty9 rfl rfl ha_6 (by first | omega | (simp only [List.length_set]; omega))) ?_
    refine RL.val (x_ldV (v := .string (e)) (y := e) ty9 rfl hc_7 rfl) ?_
    refine RL.st rfl <| St1.callV (first := []) (vals := .string (e) :: caps) hen rfl rfl (hq e (mem_of_at hx) _ K0) ?_
    rintro _ w_10 ⟨rfl, K_11⟩
    replace hc_7 := hc_7.ext K_11
    replace K0 := K0.ext K_11
    refine RL.nil ?_
    refine Run.cond rfl (fun hc16 => ?_) (fun hc16 => ?_)
    · skip
      refine Run.seq ?_
      refine Run.region ?_
      refine RL.val (x_moveI rfl) ?_
      refine RL.val (x_assignI rfl) ?_
      refine RL.nil ?_
      refine Run.ret1 (v := .int .i64 (((i : Nat) : Int))) Try.func65 rfl rfl ?_
      exact ⟨_, rfl, by rw [findI_at hx hc16 hno], K0⟩
    · skip
      refine Run.skip ?_
      refine Run.inBlock ?_
      refine Run.region ?_
      refine RL.val (litI (c := ((i + 1 : Nat) : Int)) (x_add rfl rfl (by omega) (by omega)) rfl) ?_
      refine RL.val (x_moveI rfl) ?_
      refine RL.nil ?_
      refine ih1 (i + 1) _ _ ?_ (by omega)
      refine ⟨⟨rfl, rfl, rfl, rfl, trivial⟩, K0, ?_, ?_⟩
      · omega
      · exact hno.step hx hc16
  · try simp only [br] at hc9
    refine Run.exit rfl ?_
    refine Run.seq ?_
    refine Run.region ?_
    refine RL.val (x_assignI rfl) ?_
    refine RL.nil ?_
    refine Run.ret1 (v := .int .i64 (-1)) Try.func65 rfl rfl ?_
    exact ⟨_, rfl, by rw [findI_no hno (by omega)], K0⟩

set_option maxRecDepth 100000 in
set_option maxHeartbeats 4000000 in
theorem containsFunc_str (a : Option Addr) (xs : List ByteArray) (c : Nat) (gf : FuncId) (caps : List Value) (q : ByteArray → Bool) (hen : Enters Try.prog gf) (w : World) (hs : SlOf w a xs) (hl : xs.length ≤ 4294967295) (hq : ∀ x ∈ xs, ∀ w', Ext w w' → Calls Try.prog gf (Enc.val x :: caps).toArray w' (Ret fun v w'' => v = .bool (q x) ∧ Ext w' w'')) :
    Calls Try.prog 42 #[.slice (a) (xs.length) (c), .func (.func gf) #[] caps.toArray] w (Ret (fun v w' => v = .bool (xs.any q) ∧ Ext w w')) := by
  refine calls_run (n := 9) Try.func42 rfl rfl rfl ?_
  refine Run.seq ?_
  refine Run.region ?_
  refine RL.val (x_assignB rfl) ?_
  refine RL.nil ?_
  refine Run.seq ?_
  refine Run.region ?_
  refine RL.val (x_moveSl rfl) ?_
  refine RL.val (x_moveF rfl) ?_
  refine RL.st rfl <| St1.call (vals := [.slice (a) (xs.length) (c), .func (.func gf) #[] caps.toArray]) en65 rfl (indexFunc_str _ _ _ _ _ q hen _ hs (by omega) hq) ?_
  rintro _ w_1 ⟨rfl, K_2⟩
  have K0 := (K_2 : Ext w _)
  refine RL.val (x_geI rfl rfl) ?_
  refine RL.val (x_assignB rfl) ?_
  refine RL.nil ?_
  refine Run.ret1 (v := .bool (decide (0 ≤ (findI q xs)))) Try.func42 rfl rfl ?_
  exact ⟨_, rfl, by rw [findI_ge], K0⟩

set_option maxRecDepth 100000 in
set_option maxHeartbeats 4000000 in
theorem equal_move (a : Option Addr) (xs : List MoveC) (c : Nat) (d : Option Addr) (ys : List MoveC) (e : Nat) (w : World) (hs : SlOf w a xs) (ht : SlOf w d ys) (hl : xs.length ≤ 4294967295) :
    Calls Try.prog 34 #[.slice (a) (xs.length) (c), .slice (d) (ys.length) (e)] w (Ret (fun v w' => v = .bool (decide (xs = ys)) ∧ Ext w w')) := by
  refine calls_run (n := 26) Try.func34 rfl rfl rfl ?_
  refine Run.seq ?_
  refine Run.region ?_
  refine RL.val (x_assignB rfl) ?_
  refine RL.nil ?_
  refine Run.seq ?_
  refine Run.seq ?_
  refine Run.region ?_
  refine RL.val (x_moveSl rfl) ?_
  refine RL.val (x_lenSl Try.underlying64 rfl) ?_
  refine RL.val (x_moveSl rfl) ?_
  refine RL.val (x_lenSl Try.underlying64 rfl) ?_
  refine RL.val (x_neI rfl rfl) ?_
  refine RL.nil ?_
  refine Run.cond rfl (fun hc10 => ?_) (fun hc10 => ?_)
  · try simp only [br] at hc10
    refine Run.seq ?_
    refine Run.region ?_
    refine RL.val (x_assignB rfl) ?_
    refine RL.nil ?_
    refine Run.ret1 (v := .bool (false)) Try.func34 rfl rfl ?_
    exact ⟨_, rfl, by rw [decide_eq_false (fun h => hc10 (by rw [h]))], (Keeps.refl _ w)⟩
  · try simp only [br] at hc10
    have hlen : xs.length = ys.length := by omega
    refine Run.skip ?_
    refine Run.seq ?_
    refine Run.seq ?_
    refine Run.region ?_
    refine RL.val (x_moveSl rfl) ?_
    refine RL.val (x_lenSl Try.underlying64 rfl) ?_
    refine RL.val (x_moveI rfl) ?_
    refine RL.nil ?_
    refine Run.block ?_
    refine Run.loop (ι := Nat) (fun i ρ' w' => Holds ρ' [(0, .slice (a) (xs.length) (c)), (1, .slice (d) (ys.length) (e)), (12, .int .i64 (((xs.length : Nat) : Int))), (13, .int .i64 (((i : Nat) : Int)))] ∧ Ext w w' ∧ (i ≤ xs.length) ∧ (SameB xs ys i)) (fun i => xs.length - i) 0 ?_ ?_
    · refine ⟨⟨rfl, rfl, rfl, rfl, trivial⟩, (Keeps.refl _ w), ?_, ?_⟩
      · omega
      · exact SameB.zero _ _
    rintro i ρ_3 w_1 ⟨hH_2, K0, hi, hno⟩ ih1
    obtain ⟨ρ₀, rfl⟩ := hH_2.ex
    clear hH_2
    refine Run.seq ?_
    refine Run.region ?_
    refine RL.val (x_ltI rfl rfl) ?_
    refine RL.nil ?_
    refine Run.seq ?_
    refine Run.cond rfl (fun hc14 => ?_) (fun hc14 => ?_)
    · try simp only [br] at hc14
      refine Run.skip ?_
      refine Run.seq ?_
      refine Run.block ?_
      refine Run.seq ?_
      refine Run.region ?_
      refine RL.val (x_moveI rfl) ?_
      refine RL.val (x_assignI rfl) ?_
      refine RL.nil ?_
      refine Run.seq ?_
      obtain ⟨b_6, o_7, x, hx, ha_8, hc_9⟩ := hs.el (i := i) (by first | omega | (simp only [List.length_set]; omega))
      have hc_9_lt := hc_9.lt
      replace hc_9 := hc_9.ext K0
      obtain ⟨b_12, o_13, y, hy, ha_14, hc_15⟩ := ht.el (i := i) (by first | omega | (simp only [List.length_set]; omega))
      have hc_15_lt := hc_15.lt
      replace hc_15 := hc_15.ext K0
      refine Run.draw' (m := 9) (by kernel_rfl) rfl ?_
      intro w_4 K_5
      replace hc_9 := hc_9.ext K_5
      replace hc_15 := hc_15.ext K_5
      replace K0 := K0.ext K_5
      refine RA.take (v := .slice (a) (xs.length) (c)) 0 rfl (by kernel_rfl) rfl (by rintro _ rfl; exact (x_moveSl rfl)) ?_
      refine RA.take (v := .int .i64 (((i : Nat) : Int))) 1 rfl (by kernel_rfl) rfl (by rintro _ rfl; exact (x_moveI rfl)) ?_
      refine RA.take (v := .pointer (some ⟨b_6, o_7 + i * 3, none⟩)) 2 rfl (by kernel_rfl) rfl (by rintro _ rfl; exact (x_idxN Try.underlying64 ty82 rfl rfl ha_8 (by first | omega | (simp only [List.length_set]; omega)))) ?_
      refine RA.take (v := .agg #[.int .i64 ((x).part), .int .i64 ((x).frm), .int .i64 ((x).to)]) 3 rfl (by kernel_rfl) rfl (by rintro _ rfl; exact (x_ldV (v := .agg #[.int .i64 ((x).part), .int .i64 ((x).frm), .int .i64 ((x).to)]) (y := x) ty82 rfl hc_9 rfl)) ?_
      refine RA.take (v := .slice (d) (ys.length) (e)) 4 rfl (by kernel_rfl) rfl (by rintro _ rfl; exact (x_moveSl rfl)) ?_
      refine RA.take (v := .int .i64 (((i : Nat) : Int))) 5 rfl (by kernel_rfl) rfl (by rintro _ rfl; exact (x_moveI rfl)) ?_
      refine RA.take (v := .pointer (some ⟨b_12, o_13 + i * 3, none⟩)) 6 rfl (by kernel_rfl) rfl (by rintro _ rfl; exact (x_idxN Try.underlying64 ty82 rfl rfl ha_14 (by first | omega | (simp only [List.length_set]; omega)))) ?_
      refine RA.take (v := .agg #[.int .i64 ((y).part), .int .i64 ((y).frm), .int .i64 ((y).to)]) 7 rfl (by kernel_rfl) rfl (by rintro _ rfl; exact (x_ldV (v := .agg #[.int .i64 ((y).part), .int .i64 ((y).frm), .int .i64 ((y).to)]) (y := y) ty82 rfl hc_15 rfl)) ?_
      refine RA.take (v := .bool (!decide (x = y))) 8 rfl (by kernel_rfl) rfl (by rintro _ rfl; exact (x_neA (by kernel_rfl) rfl rfl (eq_MoveC x y))) ?_
      refine RA.done (by kernel_rfl) ?_
      refine Run.cond rfl (fun hc24 => ?_) (fun hc24 => ?_)
      · try simp only [br] at hc24
        refine Run.seq ?_
        refine Run.region ?_
        refine RL.val (x_assignB rfl) ?_
        refine RL.nil ?_
        refine Run.ret1 (v := .bool (false)) Try.func34 rfl rfl ?_
        exact ⟨_, rfl, by rw [decide_eq_false (ne_of_at hx hy hc24)], K0⟩
      · try simp only [br] at hc24
        refine Run.skip ?_
        refine Run.inBlock ?_
        refine Run.region ?_
        refine RL.val (litI (c := ((i + 1 : Nat) : Int)) (x_add rfl rfl (by omega) (by omega)) rfl) ?_
        refine RL.val (x_moveI rfl) ?_
        refine RL.nil ?_
        refine ih1 (i + 1) _ _ ?_ (by omega)
        refine ⟨⟨rfl, rfl, rfl, rfl, trivial⟩, K0, ?_, ?_⟩
        · omega
        · exact hno.step hx hy hc24
    · try simp only [br] at hc14
      refine Run.exit rfl ?_
      refine Run.seq ?_
      refine Run.region ?_
      refine RL.val (x_assignB rfl) ?_
      refine RL.nil ?_
      refine Run.ret1 (v := .bool (true)) Try.func34 rfl rfl ?_
      exact ⟨_, rfl, by rw [decide_eq_true (hno.all hlen (by omega))], K0⟩

set_option maxRecDepth 100000 in
set_option maxHeartbeats 4000000 in
theorem thereNil  (w : World) :
    Calls Try.prog 49 #[.pointer none] w (Ret (fun v w' => v = .bool false ∧ Ext w w')) := by
  refine calls_run (n := 11) Try.func49 rfl rfl rfl ?_
  refine Run.seq ?_
  refine Run.region ?_
  refine RL.val (x_assignB rfl) ?_
  refine RL.nil ?_
  refine Run.seq ?_
  refine Run.region ?_
  refine RL.val (x_moveP rfl) ?_
  refine RL.val (litF (x_ptrNotNil Try.underlying24 rfl rfl) rfl) ?_
  refine RL.val (x_moveB rfl) ?_
  refine RL.guardF (wantedT0 rfl rfl rfl rfl) ?_
  refine RL.guardF (wantedT0 rfl rfl rfl rfl) ?_
  refine RL.guardF (wantedT0 rfl rfl rfl rfl) ?_
  refine RL.guardF (wantedT0 rfl rfl rfl rfl) ?_
  refine RL.val (x_and (b := false) (e := false) rfl rfl rfl) ?_
  refine RL.val (x_assignB rfl) ?_
  refine RL.nil ?_
  refine Run.ret1 (v := .bool (false)) Try.func49 rfl rfl ?_
  exact ⟨_, rfl, rfl, (Keeps.refl _ w)⟩

set_option maxRecDepth 100000 in
set_option maxHeartbeats 4000000 in
theorem thereZero (s : Nat) (w : World) (hB : Blk w s [.bool false, .int .i64 0, .int .i64 0, .int .i64 0, .slice none 0 0] 60) :
    Calls Try.prog 49 #[.pointer (some ⟨s, 0, none⟩)] w (Ret (fun v w' => v = .bool false ∧ Ext w w')) := by
  refine calls_run (n := 11) Try.func49 rfl rfl rfl ?_
  refine Run.seq ?_
  refine Run.region ?_
  refine RL.val (x_assignB rfl) ?_
  refine RL.nil ?_
  refine Run.seq ?_
  refine Run.region ?_
  refine RL.val (x_moveP rfl) ?_
  refine RL.val (litT (x_ptrNotNil Try.underlying24 rfl rfl) rfl) ?_
  refine RL.val (x_moveB rfl) ?_
  refine RL.gst (wantedT1 rfl rfl rfl rfl) <| St1.val (x_moveP rfl) ?_
  refine RL.gst (wantedT1 rfl rfl rfl rfl) <| St1.val (x_nilCheck rfl) ?_
  refine RL.gst (wantedT1 rfl rfl rfl rfl) <| St1.val (x_fld (o' := 0) Try.underlying60 rfl ty4 rfl rfl rfl) ?_
  refine RL.gst (wantedT1 rfl rfl rfl rfl) <| St1.val (x_ld (v := .bool (false)) ty4 rfl rfl (hB.cl.field (i := 0) rfl)) ?_
  refine RL.val (x_andT rfl rfl rfl) ?_
  refine RL.val (x_assignB rfl) ?_
  refine RL.nil ?_
  refine Run.ret1 (v := .bool (false)) Try.func49 rfl rfl ?_
  exact ⟨_, rfl, rfl, (Keeps.refl _ w)⟩

set_option maxRecDepth 100000 in
set_option maxHeartbeats 4000000 in
theorem there_ (s : Nat) (al : Option Addr) (cl : Nat) (self now req : Int) (ts : List (TrS Item)) (w : World) (hD : SndO w s al cl self now req ts) (hL : ts.length ≤ 1000) :
    Calls Try.prog 49 #[.pointer (some ⟨s, 0, none⟩)] w (Ret (fun v w' => v = .bool true ∧ w = w')) := by
  obtain ⟨hB, ho, hT, hos, htss, hto, hok⟩ := hD
  have hlp := ptr_len ts
  have hs0 := hok.self0
  have hn0 := hok.now0
  refine calls_run (n := 11) Try.func49 rfl rfl rfl ?_
  refine Run.seq ?_
  refine Run.region ?_
  refine RL.val (x_assignB rfl) ?_
  refine RL.nil ?_
  refine Run.seq ?_
  refine Run.region ?_
  refine RL.val (x_moveP rfl) ?_
  refine RL.val (litT (x_ptrNotNil Try.underlying24 rfl rfl) rfl) ?_
  refine RL.val (x_moveB rfl) ?_
  refine RL.gst (wantedT1 rfl rfl rfl rfl) <| St1.val (x_moveP rfl) ?_
  refine RL.gst (wantedT1 rfl rfl rfl rfl) <| St1.val (x_nilCheck rfl) ?_
  refine RL.gst (wantedT1 rfl rfl rfl rfl) <| St1.val (x_fld (o' := 0) Try.underlying60 rfl ty4 rfl rfl rfl) ?_
  refine RL.gst (wantedT1 rfl rfl rfl rfl) <| St1.val (x_ld (v := .bool (true)) ty4 rfl rfl (hB.cl.field (i := 0) rfl)) ?_
  refine RL.val (x_andT rfl rfl rfl) ?_
  refine RL.val (x_assignB rfl) ?_
  refine RL.nil ?_
  refine Run.ret1 (v := .bool (true)) Try.func49 rfl rfl ?_
  exact ⟨_, rfl, rfl, rfl⟩

set_option maxRecDepth 100000 in
set_option maxHeartbeats 4000000 in
theorem mayNil  (part to : Int) (w : World) :
    Calls Try.prog 41 #[.pointer none, .int .i64 (part), .int .i64 (to)] w (Ret (fun v w' => v = .int .i64 8 ∧ Ext w w')) := by
  refine calls_run (n := 34) Try.func41 rfl rfl rfl ?_
  refine Run.seq ?_
  refine Run.region ?_
  refine RL.val (x_assignI rfl) ?_
  refine RL.nil ?_
  refine Run.seq ?_
  refine Run.block ?_
  refine Run.seq ?_
  refine Run.region ?_
  refine RL.val (x_moveP rfl) ?_
  refine RL.st rfl <| St1.call (vals := [.pointer none]) en49 rfl (thereNil  _) ?_
  rintro _ w_1 ⟨rfl, K_2⟩
  have K0 := (K_2 : Ext w _)
  refine RL.val (x_not rfl) ?_
  refine RL.val (x_assignB rfl) ?_
  refine RL.nil ?_
  refine Run.condT rfl ?_
  refine Run.seq ?_
  refine Run.region ?_
  refine RL.val (x_assignI rfl) ?_
  refine RL.nil ?_
  refine Run.ret1 (v := .int .i64 (8)) Try.func41 rfl rfl ?_
  exact ⟨_, rfl, rfl, K0⟩

set_option maxRecDepth 100000 in
set_option maxHeartbeats 4000000 in
theorem mayZero (s : Nat) (part to : Int) (w : World) (hB : Blk w s [.bool false, .int .i64 0, .int .i64 0, .int .i64 0, .slice none 0 0] 60) :
    Calls Try.prog 41 #[.pointer (some ⟨s, 0, none⟩), .int .i64 (part), .int .i64 (to)] w (Ret (fun v w' => v = .int .i64 8 ∧ Ext w w')) := by
  refine calls_run (n := 34) Try.func41 rfl rfl rfl ?_
  refine Run.seq ?_
  refine Run.region ?_
  refine RL.val (x_assignI rfl) ?_
  refine RL.nil ?_
  refine Run.seq ?_
  refine Run.block ?_
  refine Run.seq ?_
  refine Run.region ?_
  refine RL.val (x_moveP rfl) ?_
  refine RL.st rfl <| St1.call (vals := [.pointer (some ⟨s, 0, none⟩)]) en49 rfl (thereZero _  _ hB) ?_
  rintro _ w_1 ⟨rfl, K_2⟩
  replace hB := hB.ext K_2
  have K0 := (K_2 : Ext w _)
  refine RL.val (x_not rfl) ?_
  refine RL.val (x_assignB rfl) ?_
  refine RL.nil ?_
  refine Run.condT rfl ?_
  refine Run.seq ?_
  refine Run.region ?_
  refine RL.val (x_assignI rfl) ?_
  refine RL.nil ?_
  refine Run.ret1 (v := .int .i64 (8)) Try.func41 rfl rfl ?_
  exact ⟨_, rfl, rfl, K0⟩

set_option maxRecDepth 100000 in
set_option maxHeartbeats 4000000 in
theorem may_ (s : Nat) (al : Option Addr) (cl : Nat) (self now req : Int) (ts : List (TrS Item)) (part to : Int) (w : World) (hD : SndO w s al cl self now req ts) (hL : ts.length ≤ 1000) :
    Calls Try.prog 41 #[.pointer (some ⟨s, 0, none⟩), .int .i64 (part), .int .i64 (to)] w (Ret (fun v w' => v = .int .i64 (mayE self part to) ∧ Ext w w')) := by
  obtain ⟨hB, ho, hT, hos, htss, hto, hok⟩ := hD
  have hlp := ptr_len ts
  have hs0 := hok.self0
  have hn0 := hok.now0
  refine calls_run (n := 34) Try.func41 rfl rfl rfl ?_
  refine Run.seq ?_
  refine Run.region ?_
  refine RL.val (x_assignI rfl) ?_
  refine RL.nil ?_
  refine Run.seq ?_
  refine Run.block ?_
  refine Run.seq ?_
  refine Run.region ?_
  refine RL.val (x_moveP rfl) ?_
  refine RL.st rfl <| St1.call (vals := [.pointer (some ⟨s, 0, none⟩)]) en49 rfl (there_ s al cl self now req ts _ (⟨hB, ho, hT, hos, htss, hto, hok⟩ : SndO _ s al cl self now req ts) hL) ?_
  rintro _ _ ⟨rfl, rfl⟩
  refine RL.val (x_not rfl) ?_
  refine RL.val (x_assignB rfl) ?_
  refine RL.nil ?_
  refine Run.condF rfl ?_
  refine Run.seq ?_
  refine Run.region ?_
  refine RL.val (x_moveI rfl) ?_
  refine RL.val (x_ltI rfl rfl) ?_
  refine RL.val (x_moveB rfl) ?_
  refine RL.gval (wantedF rfl rfl rfl rfl) (fun hg => (x_moveI rfl)) ?_
  refine RL.gval (wantedF rfl rfl rfl rfl) (fun hg => (x_geI (gvr hg) rfl)) ?_
  refine RL.val (x_or rfl rfl rfl) ?_
  refine RL.val (x_moveB rfl) ?_
  refine RL.gval (wantedF rfl rfl rfl rfl) (fun hg => (x_moveI rfl)) ?_
  refine RL.gval (wantedF rfl rfl rfl rfl) (fun hg => (x_ltI (gvr hg) rfl)) ?_
  refine RL.val (x_or rfl rfl rfl) ?_
  refine RL.val (x_moveB rfl) ?_
  refine RL.gval (wantedF rfl rfl rfl rfl) (fun hg => (x_moveI rfl)) ?_
  refine RL.gval (wantedF rfl rfl rfl rfl) (fun hg => (x_geI (gvr hg) rfl)) ?_
  refine RL.val (x_or rfl rfl rfl) ?_
  refine RL.val (x_moveB rfl) ?_
  refine RL.gval (wantedF rfl rfl rfl rfl) (fun hg => (x_moveI rfl)) ?_
  refine RL.gval (wantedF rfl rfl rfl rfl) (fun hg => (x_moveP rfl)) ?_
  refine RL.gval (wantedF rfl rfl rfl rfl) (fun hg => (x_nilCheck (gvr hg))) ?_
  refine RL.gval (wantedF rfl rfl rfl rfl) (fun hg => (x_fld (o' := 1) Try.underlying60 rfl ty3 rfl (gvr hg) rfl)) ?_
  refine RL.gval (wantedF rfl rfl rfl rfl) (fun hg => (x_ld (v := .int .i64 (self)) ty3 (gvr hg) rfl (hB.cl.field (i := 1) rfl))) ?_
  refine RL.gval (wantedF rfl rfl rfl rfl) (fun hg => (x_eqI (gvr hg) (gvr hg))) ?_
  refine RL.val (x_or rfl rfl rfl) ?_
  refine RL.val (x_assignB rfl) ?_
  refine RL.nil ?_
  refine Run.cond rfl (fun hc11 => ?_) (fun hc11 => ?_)
  · try simp only [br] at hc11
    refine Run.seq ?_
    refine Run.region ?_
    refine RL.val (x_assignI rfl) ?_
    refine RL.nil ?_
    refine Run.ret1 (v := .int .i64 (1)) Try.func41 rfl rfl ?_
    exact ⟨_, rfl, by rw [mayE, if_pos (by omega)], (Keeps.refl _ w)⟩
  · try simp only [br] at hc11
    refine Run.skip ?_
    refine Run.inBlock ?_
    refine Run.seq ?_
    refine Run.region ?_
    refine RL.val (x_assignI rfl) ?_
    refine RL.nil ?_
    refine Run.ret1 (v := .int .i64 (0)) Try.func41 rfl rfl ?_
    exact ⟨_, rfl, by rw [mayE, if_neg (by omega)], (Keeps.refl _ w)⟩

set_option maxRecDepth 100000 in
set_option maxHeartbeats 4000000 in
theorem find1_ (b c : Nat) (part to : Int) (t : TrS Item) (w : World) (hb : Blk w b [.int .i64 part] 3) (hc : Blk w c [.int .i64 to] 3) (hbt : Blk w t.blk [.int .i64 t.part, .int .i64 t.to, .slice t.a t.left.length t.cap] 89) :
    Calls Try.prog 67 #[.pointer (some ⟨t.blk, 0, none⟩), .pointer (some ⟨b, 0, none⟩), .pointer (some ⟨c, 0, none⟩)] w (Ret (fun v w' => v = .bool (sameT part to t.p) ∧ Ext w w')) := by
  refine calls_run (n := 19) Try.func67 rfl rfl rfl ?_
  refine Run.seq ?_
  refine Run.region ?_
  refine RL.val (x_assignB rfl) ?_
  refine RL.nil ?_
  refine Run.seq ?_
  refine Run.draw' (m := 15) (by kernel_rfl) rfl ?_
  intro w_1 K_2
  replace hb := hb.ext K_2
  replace hc := hc.ext K_2
  replace hbt := hbt.ext K_2
  have K0 := (K_2 : Ext w _)
  refine RA.take (v := .pointer (some ⟨t.blk, 0, none⟩)) 0 rfl (by kernel_rfl) rfl (by rintro _ rfl; exact (x_moveP rfl)) ?_
  refine RA.take (v := .pointer (some ⟨t.blk, 0, none⟩)) 1 rfl (by kernel_rfl) rfl (by rintro _ rfl; exact (x_nilCheck rfl)) ?_
  refine RA.take (v := .pointer (some ⟨t.blk, 0, none⟩)) 2 rfl (by kernel_rfl) rfl (by rintro _ rfl; exact (x_fld (o' := 0) Try.underlying89 rfl ty3 rfl rfl rfl)) ?_
  refine RA.take (v := .int .i64 (t.part)) 3 rfl (by kernel_rfl) rfl (by rintro _ rfl; exact (x_ld (v := .int .i64 (t.part)) ty3 rfl rfl (hbt.cl.field (i := 0) rfl))) ?_
  refine RA.take (v := .int .i64 (part)) 4 rfl (by kernel_rfl) rfl (by rintro _ rfl; exact (x_ld (v := .int .i64 (part)) ty3 rfl rfl (hb.cl.field (i := 0) rfl))) ?_
  refine RA.take (v := .bool (t.part == part)) 5 rfl (by kernel_rfl) rfl (by rintro _ rfl; exact (x_eqI rfl rfl)) ?_
  refine RA.take (v := .bool (t.part == part)) 6 rfl (by kernel_rfl) rfl (by rintro _ rfl; exact (x_moveB rfl)) ?_
  refine RA.gtake (v := .pointer (some ⟨t.blk, 0, none⟩)) 7 rfl (by kernel_rfl) rfl (wantedT rfl rfl rfl rfl) (fun hg => by rintro _ rfl; exact (x_moveP rfl)) ?_
  refine RA.gtake (v := .pointer (some ⟨t.blk, 0, none⟩)) 8 rfl (by kernel_rfl) rfl (wantedT rfl rfl rfl rfl) (fun hg => by rintro _ rfl; exact (x_nilCheck (gvr hg))) ?_
  refine RA.gtake (v := .pointer (some ⟨t.blk, 1, none⟩)) 9 rfl (by kernel_rfl) rfl (wantedT rfl rfl rfl rfl) (fun hg => by rintro _ rfl; exact (x_fld (o' := 1) Try.underlying89 rfl ty3 rfl (gvr hg) rfl)) ?_
  refine RA.gtake (v := .int .i64 (t.to)) 10 rfl (by kernel_rfl) rfl (wantedT rfl rfl rfl rfl) (fun hg => by rintro _ rfl; exact (x_ld (v := .int .i64 (t.to)) ty3 (gvr hg) rfl (hbt.cl.field (i := 1) rfl))) ?_
  refine RA.gtake (v := .int .i64 (to)) 11 rfl (by kernel_rfl) rfl (wantedT rfl rfl rfl rfl) (fun hg => by rintro _ rfl; exact (x_ld (v := .int .i64 (to)) ty3 rfl rfl (hc.cl.field (i := 0) rfl))) ?_
  refine RA.gtake (v := .bool (t.to == to)) 12 rfl (by kernel_rfl) rfl (wantedT rfl rfl rfl rfl) (fun hg => by rintro _ rfl; exact (x_eqI (gvr hg) (gvr hg))) ?_
  refine RA.take (v := .bool ((t.part == part) && (t.to == to))) 13 rfl (by kernel_rfl) rfl (by rintro _ rfl; exact (x_and rfl rfl rfl)) ?_
  refine RA.take (v := .bool ((t.part == part) && (t.to == to))) 14 rfl (by kernel_rfl) rfl (by rintro _ rfl; exact (x_assignB rfl)) ?_
  refine RA.done (by kernel_rfl) ?_
  refine Run.ret1 (v := .bool ((t.part == part) && (t.to == to))) Try.func67 rfl rfl ?_
  exact ⟨_, rfl, rfl, K0⟩

set_option maxRecDepth 100000 in
set_option maxHeartbeats 4000000 in
theorem find_ (s : Nat) (al : Option Addr) (cl : Nat) (self now req : Int) (ts : List (TrS Item)) (part to : Int) (w : World) (hD : SndO w s al cl self now req ts) (hL : ts.length ≤ 1000) :
    Calls Try.prog 45 #[.pointer (some ⟨s, 0, none⟩), .int .i64 (part), .int .i64 (to)] w (Ret (fun v w' => v = .int .i64 (findI (sameT part to) (ts.map TrS.p)) ∧ Ext w w')) := by
  obtain ⟨hB, ho, hT, hos, htss, hto, hok⟩ := hD
  have hlp := ptr_len ts
  have hs0 := hok.self0
  have hn0 := hok.now0
  refine calls_run (n := 13) Try.func45 rfl rfl rfl ?_
  refine Run.seq ?_
  refine Run.region ?_
  refine RL.st rfl <| St1.box (v := .int .i64 (part)) rfl ?_
  intro b_1 w_2 hl_5 hb_4 K_3
  replace hb_4 : Blk w_2 b_1 [.int .i64 (part)] 3 := hb_4
  have ne_6 : s < b_1 := Nat.lt_of_lt_of_le hB.lt hl_5
  have pr_7 : ¬ own al b_1 := fun h => absurd (ho.own_lt _ h) (by omega)
  have pr_8 : ¬ trsS ts b_1 := fun h => absurd (hT.own_lt _ h) (by omega)
  have : w.heap.size ≤ b_1 := hl_5
  clear hl_5
  replace hB := hB.ext K_3
  replace ho := ho.ext K_3
  replace hT := hT.ext K_3
  have K0 := (K_3 : Ext w _)
  refine RL.st rfl <| St1.box (v := .int .i64 (to)) rfl ?_
  intro b_9 w_10 hl_13 hb_12 K_11
  replace hb_12 : Blk w_10 b_9 [.int .i64 (to)] 3 := hb_12
  have ne_14 : s < b_9 := Nat.lt_of_lt_of_le hB.lt hl_13
  have ne_15 : b_1 < b_9 := Nat.lt_of_lt_of_le hb_4.lt hl_13
  have pr_16 : ¬ own al b_9 := fun h => absurd (ho.own_lt _ h) (by omega)
  have pr_17 : ¬ trsS ts b_9 := fun h => absurd (hT.own_lt _ h) (by omega)
  have : w.heap.size ≤ b_9 := Nat.le_trans K0.size hl_13
  clear hl_13
  replace hB := hB.ext K_11
  replace ho := ho.ext K_11
  replace hT := hT.ext K_11
  replace hb_4 := hb_4.ext K_11
  replace K0 := K0.ext K_11
  refine RL.val (x_assignI rfl) ?_
  refine RL.nil ?_
  refine Run.seq ?_
  refine Run.region ?_
  refine RL.val (x_moveP rfl) ?_
  refine RL.val (x_nilCheck rfl) ?_
  refine RL.val (x_fld (o' := 4) Try.underlying60 rfl ty58 rfl rfl rfl) ?_
  refine RL.val (x_ld (v := .slice (al) ((ts.map TrS.ptr).length) (cl)) ty58 rfl rfl (hB.cl.field (i := 4) rfl)) ?_
  refine RL.val (x_mkFunc (a := []) (c := [.pointer (some ⟨b_1, 0, none⟩), .pointer (some ⟨b_9, 0, none⟩)]) rfl rfl) ?_
  refine RL.st rfl <| St1.call (vals := [.slice (al) ((ts.map TrS.ptr).length) (cl), .func (.func 67) #[] #[.pointer (some ⟨b_1, 0, none⟩), .pointer (some ⟨b_9, 0, none⟩)]]) en66 rfl (indexFunc_tr _ _ _ 67 _ (qP ts part to) en67 _ ho.sl (by omega) (fun x hx w' K' => by obtain ⟨t, ht, rfl⟩ := List.mem_map.1 hx; rw [qP_at hT ht]; exact find1_ _ _ part to t w' (hb_4.ext K') (hb_12.ext K') ((hT.all t ht).blk.ext K'))) ?_
  rintro _ w_18 ⟨rfl, K_19⟩
  replace hB := hB.ext K_19
  replace ho := ho.ext K_19
  replace hT := hT.ext K_19
  replace hb_4 := hb_4.ext K_19
  replace hb_12 := hb_12.ext K_19
  replace K0 := K0.ext K_19
  refine RL.val (x_assignI rfl) ?_
  refine RL.nil ?_
  refine Run.ret1 (v := .int .i64 (findI (qP ts part to) (ts.map TrS.ptr))) Try.func45 rfl rfl ?_
  exact ⟨_, rfl, by rw [findP hT], K0⟩

set_option maxRecDepth 100000 in
set_option maxHeartbeats 4000000 in
theorem leftNil  (part to : Int) (w : World) :
    Calls Try.prog 17 #[.pointer none, .int .i64 (part), .int .i64 (to)] w (Ret (fun v w' => v = .int .i64 0 ∧ Ext w w')) := by
  refine calls_run (n := 28) Try.func17 rfl rfl rfl ?_
  refine Run.seq ?_
  refine Run.region ?_
  refine RL.val (x_assignI rfl) ?_
  refine RL.nil ?_
  refine Run.seq ?_
  refine Run.seq ?_
  refine Run.region ?_
  refine RL.val (x_moveP rfl) ?_
  refine RL.st rfl <| St1.call (vals := [.pointer none]) en49 rfl (thereNil  _) ?_
  rintro _ w_1 ⟨rfl, K_2⟩
  have K0 := (K_2 : Ext w _)
  refine RL.val (x_not rfl) ?_
  refine RL.nil ?_
  refine Run.condT rfl ?_
  refine Run.seq ?_
  refine Run.region ?_
  refine RL.val (x_assignI rfl) ?_
  refine RL.nil ?_
  refine Run.ret1 (v := .int .i64 (0)) Try.func17 rfl rfl ?_
  exact ⟨_, rfl, rfl, K0⟩

set_option maxRecDepth 100000 in
set_option maxHeartbeats 4000000 in
theorem leftZero (s : Nat) (part to : Int) (w : World) (hB : Blk w s [.bool false, .int .i64 0, .int .i64 0, .int .i64 0, .slice none 0 0] 60) :
    Calls Try.prog 17 #[.pointer (some ⟨s, 0, none⟩), .int .i64 (part), .int .i64 (to)] w (Ret (fun v w' => v = .int .i64 0 ∧ Ext w w')) := by
  refine calls_run (n := 28) Try.func17 rfl rfl rfl ?_
  refine Run.seq ?_
  refine Run.region ?_
  refine RL.val (x_assignI rfl) ?_
  refine RL.nil ?_
  refine Run.seq ?_
  refine Run.seq ?_
  refine Run.region ?_
  refine RL.val (x_moveP rfl) ?_
  refine RL.st rfl <| St1.call (vals := [.pointer (some ⟨s, 0, none⟩)]) en49 rfl (thereZero _  _ hB) ?_
  rintro _ w_1 ⟨rfl, K_2⟩
  replace hB := hB.ext K_2
  have K0 := (K_2 : Ext w _)
  refine RL.val (x_not rfl) ?_
  refine RL.nil ?_
  refine Run.condT rfl ?_
  refine Run.seq ?_
  refine Run.region ?_
  refine RL.val (x_assignI rfl) ?_
  refine RL.nil ?_
  refine Run.ret1 (v := .int .i64 (0)) Try.func17 rfl rfl ?_
  exact ⟨_, rfl, rfl, K0⟩

set_option maxRecDepth 100000 in
set_option maxHeartbeats 4000000 in
theorem left_ (s : Nat) (al : Option Addr) (cl : Nat) (self now req : Int) (ts : List (TrS Item)) (part to : Int) (w : World) (hD : SndO w s al cl self now req ts) (hL : ts.length ≤ 1000) :
    Calls Try.prog 17 #[.pointer (some ⟨s, 0, none⟩), .int .i64 (part), .int .i64 (to)] w (Ret (fun v w' => v = .int .i64 ((leftN (ts.map TrS.p) part to : Nat) : Int) ∧ Ext w w')) := by
  obtain ⟨hB, ho, hT, hos, htss, hto, hok⟩ := hD
  have hlp := ptr_len ts
  have hs0 := hok.self0
  have hn0 := hok.now0
  refine calls_run (n := 28) Try.func17 rfl rfl rfl ?_
  refine Run.seq ?_
  refine Run.region ?_
  refine RL.val (x_assignI rfl) ?_
  refine RL.nil ?_
  refine Run.seq ?_
  refine Run.seq ?_
  refine Run.region ?_
  refine RL.val (x_moveP rfl) ?_
  refine RL.st rfl <| St1.call (vals := [.pointer (some ⟨s, 0, none⟩)]) en49 rfl (there_ s al cl self now req ts _ (⟨hB, ho, hT, hos, htss, hto, hok⟩ : SndO _ s al cl self now req ts) hL) ?_
  rintro _ _ ⟨rfl, rfl⟩
  refine RL.val (x_not rfl) ?_
  refine RL.nil ?_
  refine Run.condF rfl ?_
  refine Run.skip ?_
  refine Run.seq ?_
  refine Run.region ?_
  refine RL.val (x_moveP rfl) ?_
  refine RL.val (x_moveI rfl) ?_
  refine RL.val (x_moveI rfl) ?_
  refine RL.st rfl <| St1.call (vals := [.pointer (some ⟨s, 0, none⟩), .int .i64 (part), .int .i64 (to)]) en45 rfl (find_ s al cl self now req ts part to _ (⟨hB, ho, hT, hos, htss, hto, hok⟩ : SndO _ s al cl self now req ts) hL) ?_
  rintro _ w_1 ⟨rfl, K_2⟩
  replace hB := hB.ext K_2
  replace ho := ho.ext K_2
  replace hT := hT.ext K_2
  have K0 := (K_2 : Ext w _)
  refine RL.val (x_assignI rfl) ?_
  refine RL.nil ?_
  refine Run.seq ?_
  refine Run.seq ?_
  refine Run.region ?_
  refine RL.val (x_moveI rfl) ?_
  refine RL.val (x_ltI rfl rfl) ?_
  refine RL.nil ?_
  refine Run.cond rfl (fun hc16 => ?_) (fun hc16 => ?_)
  · try simp only [br] at hc16
    obtain ⟨hk, hfs, hfx⟩ := tr_no (ts := ts) (part := part) (to := to) (by omega)
    refine Run.seq ?_
    refine Run.region ?_
    refine RL.val (x_assignI rfl) ?_
    refine RL.nil ?_
    refine Run.ret1 (v := .int .i64 (0)) Try.func17 rfl rfl ?_
    exact ⟨_, rfl, by rw [(left_no hfs).1]; rfl, K0⟩
  · try simp only [br] at hc16
    obtain ⟨k, t, l1, l2, hk, hkl, hts, hl1, hti, hpt, hst, hfs, hfx⟩ := tr_yes (ts := ts) (part := part) (to := to) (by omega)
    rw [hk]
    have hbt := (hT.all t (mem_tr hts)).blk
    have hLt := hok.at (mem_tr hts)
    have ne_3 : t.blk ≠ s := fun e_ => htss (e_ ▸ trs_subB hts)
    refine Run.skip ?_
    refine Run.seq ?_
    refine Run.region ?_
    refine RL.val (x_moveP rfl) ?_
    refine RL.val (x_nilCheck rfl) ?_
    refine RL.val (x_fld (o' := 4) Try.underlying60 rfl ty58 rfl rfl rfl) ?_
    refine RL.val (x_ld (v := .slice (al) ((ts.map TrS.ptr).length) (cl)) ty58 rfl rfl (hB.cl.field (i := 4) rfl)) ?_
    refine RL.val (x_moveI rfl) ?_
    obtain ⟨b_4, o_5, x_8, hx_9, ha_6, hc_7⟩ := ho.sl.el (i := k) (by first | omega | (simp only [List.length_set]; omega))
    obtain rfl : (some (⟨t.blk, 0, none⟩ : Addr)) = x_8 := Option.some.inj (hpt.symm.trans hx_9)
    refine RL.val (x_idxN Try.underlying58 ty90 rfl rfl ha_6 (by first | omega | (simp only [List.length_set]; omega))) ?_
    refine RL.val (x_ldV (v := .pointer (some ⟨t.blk, 0, none⟩)) (y := (some (⟨t.blk, 0, none⟩ : Addr))) ty90 rfl hc_7 rfl) ?_
    refine RL.val (x_nilCheck rfl) ?_
    refine RL.val (x_fld (o' := 2) Try.underlying89 rfl ty87 rfl rfl rfl) ?_
    refine RL.val (x_ld (v := .slice (t.a) (t.left.length) (t.cap)) ty87 rfl rfl (hbt.cl.field (i := 2) rfl)) ?_
    refine RL.val (x_lenSl Try.underlying87 rfl) ?_
    refine RL.val (x_assignI rfl) ?_
    refine RL.nil ?_
    refine Run.ret1 (v := .int .i64 (((t.left.length : Nat) : Int))) Try.func17 rfl rfl ?_
    exact ⟨_, rfl, by rw [(left_in hfs).1]; rfl, K0⟩

set_option maxRecDepth 100000 in
set_option maxHeartbeats 4000000 in
theorem doneNil  (part to : Int) (w : World) :
    Calls Try.prog 18 #[.pointer none, .int .i64 (part), .int .i64 (to)] w (Ret (fun v w' => v = .bool false ∧ Ext w w')) := by
  refine calls_run (n := 31) Try.func18 rfl rfl rfl ?_
  refine Run.seq ?_
  refine Run.region ?_
  refine RL.val (x_assignB rfl) ?_
  refine RL.nil ?_
  refine Run.seq ?_
  refine Run.seq ?_
  refine Run.region ?_
  refine RL.val (x_moveP rfl) ?_
  refine RL.st rfl <| St1.call (vals := [.pointer none]) en49 rfl (thereNil  _) ?_
  rintro _ w_1 ⟨rfl, K_2⟩
  have K0 := (K_2 : Ext w _)
  refine RL.val (x_not rfl) ?_
  refine RL.nil ?_
  refine Run.condT rfl ?_
  refine Run.seq ?_
  refine Run.region ?_
  refine RL.val (x_assignB rfl) ?_
  refine RL.nil ?_
  refine Run.ret1 (v := .bool (false)) Try.func18 rfl rfl ?_
  exact ⟨_, rfl, rfl, K0⟩

set_option maxRecDepth 100000 in
set_option maxHeartbeats 4000000 in
theorem doneZero (s : Nat) (part to : Int) (w : World) (hB : Blk w s [.bool false, .int .i64 0, .int .i64 0, .int .i64 0, .slice none 0 0] 60) :
    Calls Try.prog 18 #[.pointer (some ⟨s, 0, none⟩), .int .i64 (part), .int .i64 (to)] w (Ret (fun v w' => v = .bool false ∧ Ext w w')) := by
  refine calls_run (n := 31) Try.func18 rfl rfl rfl ?_
  refine Run.seq ?_
  refine Run.region ?_
  refine RL.val (x_assignB rfl) ?_
  refine RL.nil ?_
  refine Run.seq ?_
  refine Run.seq ?_
  refine Run.region ?_
  refine RL.val (x_moveP rfl) ?_
  refine RL.st rfl <| St1.call (vals := [.pointer (some ⟨s, 0, none⟩)]) en49 rfl (thereZero _  _ hB) ?_
  rintro _ w_1 ⟨rfl, K_2⟩
  replace hB := hB.ext K_2
  have K0 := (K_2 : Ext w _)
  refine RL.val (x_not rfl) ?_
  refine RL.nil ?_
  refine Run.condT rfl ?_
  refine Run.seq ?_
  refine Run.region ?_
  refine RL.val (x_assignB rfl) ?_
  refine RL.nil ?_
  refine Run.ret1 (v := .bool (false)) Try.func18 rfl rfl ?_
  exact ⟨_, rfl, rfl, K0⟩

set_option maxRecDepth 100000 in
set_option maxHeartbeats 4000000 in
theorem done_ (s : Nat) (al : Option Addr) (cl : Nat) (self now req : Int) (ts : List (TrS Item)) (part to : Int) (w : World) (hD : SndO w s al cl self now req ts) (hL : ts.length ≤ 1000) :
    Calls Try.prog 18 #[.pointer (some ⟨s, 0, none⟩), .int .i64 (part), .int .i64 (to)] w (Ret (fun v w' => v = .bool (doneB (ts.map TrS.p) part to) ∧ Ext w w')) := by
  obtain ⟨hB, ho, hT, hos, htss, hto, hok⟩ := hD
  have hlp := ptr_len ts
  have hs0 := hok.self0
  have hn0 := hok.now0
  refine calls_run (n := 31) Try.func18 rfl rfl rfl ?_
  refine Run.seq ?_
  refine Run.region ?_
  refine RL.val (x_assignB rfl) ?_
  refine RL.nil ?_
  refine Run.seq ?_
  refine Run.seq ?_
  refine Run.region ?_
  refine RL.val (x_moveP rfl) ?_
  refine RL.st rfl <| St1.call (vals := [.pointer (some ⟨s, 0, none⟩)]) en49 rfl (there_ s al cl self now req ts _ (⟨hB, ho, hT, hos, htss, hto, hok⟩ : SndO _ s al cl self now req ts) hL) ?_
  rintro _ _ ⟨rfl, rfl⟩
  refine RL.val (x_not rfl) ?_
  refine RL.nil ?_
  refine Run.condF rfl ?_
  refine Run.skip ?_
  refine Run.seq ?_
  refine Run.region ?_
  refine RL.val (x_moveP rfl) ?_
  refine RL.val (x_moveI rfl) ?_
  refine RL.val (x_moveI rfl) ?_
  refine RL.st rfl <| St1.call (vals := [.pointer (some ⟨s, 0, none⟩), .int .i64 (part), .int .i64 (to)]) en45 rfl (find_ s al cl self now req ts part to _ (⟨hB, ho, hT, hos, htss, hto, hok⟩ : SndO _ s al cl self now req ts) hL) ?_
  rintro _ w_1 ⟨rfl, K_2⟩
  replace hB := hB.ext K_2
  replace ho := ho.ext K_2
  replace hT := hT.ext K_2
  have K0 := (K_2 : Ext w _)
  refine RL.val (x_assignI rfl) ?_
  refine RL.nil ?_
  refine Run.seq ?_
  by_cases hh : 0 ≤ findI (sameT part to) (ts.map TrS.p)
  · obtain ⟨k, t, l1, l2, hk, hkl, hts, hl1, hti, hpt, hst, hfs, hfx⟩ := tr_yes (ts := ts) (part := part) (to := to) (by omega)
    rw [hk]
    have hbt := (hT.all t (mem_tr hts)).blk
    have hLt := hok.at (mem_tr hts)
    have ne_3 : t.blk ≠ s := fun e_ => htss (e_ ▸ trs_subB hts)
    refine Run.region ?_
    refine RL.val (x_moveI rfl) ?_
    refine RL.val (x_geI rfl rfl) ?_
    refine RL.val (x_moveB rfl) ?_
    refine RL.gval (wantedT rfl rfl rfl rfl) (fun hg => (x_moveP rfl)) ?_
    refine RL.gval (wantedT rfl rfl rfl rfl) (fun hg => (x_nilCheck (gvr hg))) ?_
    refine RL.gval (wantedT rfl rfl rfl rfl) (fun hg => (x_fld (o' := 4) Try.underlying60 rfl ty58 rfl (gvr hg) rfl)) ?_
    refine RL.gval (wantedT rfl rfl rfl rfl) (fun hg => (x_ld (v := .slice (al) ((ts.map TrS.ptr).length) (cl)) ty58 (gvr hg) rfl (hB.cl.field (i := 4) rfl))) ?_
    refine RL.gval (wantedT rfl rfl rfl rfl) (fun hg => (x_moveI rfl)) ?_
    obtain ⟨b_4, o_5, x_8, hx_9, ha_6, hc_7⟩ := ho.sl.el (i := k) (by first | omega | (simp only [List.length_set]; omega))
    obtain rfl : (some (⟨t.blk, 0, none⟩ : Addr)) = x_8 := Option.some.inj (hpt.symm.trans hx_9)
    refine RL.gval (wantedT rfl rfl rfl rfl) (fun hg => (x_idxN Try.underlying58 ty90 (gvr hg) (gvr hg) ha_6 (by first | omega | (simp only [List.length_set]; omega)))) ?_
    refine RL.gval (wantedT rfl rfl rfl rfl) (fun hg => (x_ldV (v := .pointer (some ⟨t.blk, 0, none⟩)) (y := (some (⟨t.blk, 0, none⟩ : Addr))) ty90 (gvr hg) hc_7 rfl)) ?_
    refine RL.gval (wantedT rfl rfl rfl rfl) (fun hg => (x_nilCheck (gvr hg))) ?_
    refine RL.gval (wantedT rfl rfl rfl rfl) (fun hg => (x_fld (o' := 2) Try.underlying89 rfl ty87 rfl (gvr hg) rfl)) ?_
    refine RL.gval (wantedT rfl rfl rfl rfl) (fun hg => (x_ld (v := .slice (t.a) (t.left.length) (t.cap)) ty87 (gvr hg) rfl (hbt.cl.field (i := 2) rfl))) ?_
    refine RL.gval (wantedT rfl rfl rfl rfl) (fun hg => (x_lenSl Try.underlying87 (gvr hg))) ?_
    refine RL.gval (wantedT rfl rfl rfl rfl) (fun hg => (x_eqI (gvr hg) rfl)) ?_
    refine RL.val (x_and rfl rfl rfl) ?_
    refine RL.val (x_assignB rfl) ?_
    refine RL.nil ?_
    refine Run.ret1 (v := .bool ((decide (0 ≤ ((k : Nat) : Int))) && (((t.left.length : Nat) : Int) == 0))) Try.func18 rfl rfl ?_
    exact ⟨_, rfl, by first | (rw [(left_in hfs).2, done_eq]; done) | (rw [(left_in hfs).2, done_eq, decide_eq_true (by omega : (0 : Int) ≤ (k : Int))]; rfl), K0⟩
  · obtain ⟨hk, hfs, hfx⟩ := tr_no (ts := ts) (part := part) (to := to) (by omega)
    refine Run.region ?_
    refine RL.val (x_moveI rfl) ?_
    refine RL.val (litF (x_geI rfl rfl) (by simpa using hh)) ?_
    refine RL.val (x_moveB rfl) ?_
    refine RL.guardF (wantedT0 rfl rfl rfl rfl) ?_
    refine RL.guardF (wantedT0 rfl rfl rfl rfl) ?_
    refine RL.guardF (wantedT0 rfl rfl rfl rfl) ?_
    refine RL.guardF (wantedT0 rfl rfl rfl rfl) ?_
    refine RL.guardF (wantedT0 rfl rfl rfl rfl) ?_
    refine RL.guardF (wantedT0 rfl rfl rfl rfl) ?_
    refine RL.guardF (wantedT0 rfl rfl rfl rfl) ?_
    refine RL.guardF (wantedT0 rfl rfl rfl rfl) ?_
    refine RL.guardF (wantedT0 rfl rfl rfl rfl) ?_
    refine RL.guardF (wantedT0 rfl rfl rfl rfl) ?_
    refine RL.guardF (wantedT0 rfl rfl rfl rfl) ?_
    refine RL.guardF (wantedT0 rfl rfl rfl rfl) ?_
    refine RL.val (x_and (b := false) (e := false) rfl rfl rfl) ?_
    refine RL.val (x_assignB rfl) ?_
    refine RL.nil ?_
    refine Run.ret1 (v := .bool (false)) Try.func18 rfl rfl ?_
    exact ⟨_, rfl, by rw [(left_no hfs).2], K0⟩

set_option maxRecDepth 100000 in
set_option maxHeartbeats 4000000 in
theorem openNil  (w : World) :
    Calls Try.prog 21 #[.pointer none] w (Ret (fun v w' => v = .slice none 0 0 ∧ Ext w w')) := by
  refine calls_run (n := 42) Try.func21 rfl rfl rfl ?_
  refine Run.seq ?_
  refine Run.region ?_
  refine RL.val (x_assignSl rfl) ?_
  refine RL.nil ?_
  refine Run.seq ?_
  refine Run.seq ?_
  refine Run.region ?_
  refine RL.val (x_moveP rfl) ?_
  refine RL.st rfl <| St1.call (vals := [.pointer none]) en49 rfl (thereNil  _) ?_
  rintro _ w_1 ⟨rfl, K_2⟩
  have K0 := (K_2 : Ext w _)
  refine RL.val (x_not rfl) ?_
  refine RL.nil ?_
  refine Run.condT rfl ?_
  refine Run.seq ?_
  refine Run.region ?_
  refine RL.val (x_assignSl rfl) ?_
  refine RL.nil ?_
  refine Run.ret1 (v := .slice (none) (0) (0)) Try.func21 rfl rfl ?_
  exact ⟨_, rfl, rfl, K0⟩

set_option maxRecDepth 100000 in
set_option maxHeartbeats 4000000 in
theorem openZero (s : Nat) (w : World) (hB : Blk w s [.bool false, .int .i64 0, .int .i64 0, .int .i64 0, .slice none 0 0] 60) :
    Calls Try.prog 21 #[.pointer (some ⟨s, 0, none⟩)] w (Ret (fun v w' => v = .slice none 0 0 ∧ Ext w w')) := by
  refine calls_run (n := 42) Try.func21 rfl rfl rfl ?_
  refine Run.seq ?_
  refine Run.region ?_
  refine RL.val (x_assignSl rfl) ?_
  refine RL.nil ?_
  refine Run.seq ?_
  refine Run.seq ?_
  refine Run.region ?_
  refine RL.val (x_moveP rfl) ?_
  refine RL.st rfl <| St1.call (vals := [.pointer (some ⟨s, 0, none⟩)]) en49 rfl (thereZero _  _ hB) ?_
  rintro _ w_1 ⟨rfl, K_2⟩
  replace hB := hB.ext K_2
  have K0 := (K_2 : Ext w _)
  refine RL.val (x_not rfl) ?_
  refine RL.nil ?_
  refine Run.condT rfl ?_
  refine Run.seq ?_
  refine Run.region ?_
  refine RL.val (x_assignSl rfl) ?_
  refine RL.nil ?_
  refine Run.ret1 (v := .slice (none) (0) (0)) Try.func21 rfl rfl ?_
  exact ⟨_, rfl, rfl, K0⟩

set_option maxRecDepth 100000 in
set_option maxHeartbeats 4000000 in
theorem open_ (s : Nat) (al : Option Addr) (cl : Nat) (self now req : Int) (ts : List (TrS Item)) (w : World) (hD : SndO w s al cl self now req ts) (hL : ts.length ≤ 1000) :
    Calls Try.prog 21 #[.pointer (some ⟨s, 0, none⟩)] w (Ret (fun v w' => ∃ a' c', v = .slice a' (openL self (ts.map TrS.p)).length c' ∧ OwnSl w' 82 a' c' (openL self (ts.map TrS.p)) ∧ (∀ q, own a' q → w.heap.size ≤ q) ∧ Ext w w')) := by
  obtain ⟨hB, ho, hT, hos, htss, hto, hok⟩ := hD
  have hlp := ptr_len ts
  have hs0 := hok.self0
  have hn0 := hok.now0
  refine calls_run (n := 42) Try.func21 rfl rfl rfl ?_
  refine Run.seq ?_
  refine Run.region ?_
  refine RL.val (x_assignSl rfl) ?_
  refine RL.nil ?_
  refine Run.seq ?_
  refine Run.seq ?_
  refine Run.region ?_
  refine RL.val (x_moveP rfl) ?_
  refine RL.st rfl <| St1.call (vals := [.pointer (some ⟨s, 0, none⟩)]) en49 rfl (there_ s al cl self now req ts _ (⟨hB, ho, hT, hos, htss, hto, hok⟩ : SndO _ s al cl self now req ts) hL) ?_
  rintro _ _ ⟨rfl, rfl⟩
  refine RL.val (x_not rfl) ?_
  refine RL.nil ?_
  refine Run.condF rfl ?_
  refine Run.skip ?_
  refine Run.seq ?_
  refine Run.region ?_
  refine RL.val (x_assignSl rfl) ?_
  refine RL.nil ?_
  refine Run.seq ?_
  refine Run.seq ?_
  refine Run.region ?_
  refine RL.val (x_moveP rfl) ?_
  refine RL.val (x_nilCheck rfl) ?_
  refine RL.val (x_fld (o' := 4) Try.underlying60 rfl ty58 rfl rfl rfl) ?_
  refine RL.val (x_ld (v := .slice (al) ((ts.map TrS.ptr).length) (cl)) ty58 rfl rfl (hB.cl.field (i := 4) rfl)) ?_
  refine RL.val (x_lenSl Try.underlying58 rfl) ?_
  refine RL.val (x_moveI rfl) ?_
  refine RL.nil ?_
  refine Run.block ?_
  refine Run.loop (ι := Nat) (fun i ρ' w' => ∃ am : Option Addr, ∃ cm : Nat, Holds ρ' [(0, .pointer (some ⟨s, 0, none⟩)), (3, .slice (am) ((openL self ((ts.map TrS.p).take i)).length) (cm)), (12, .slice (al) ((ts.map TrS.ptr).length) (cl)), (13, .int .i64 ((((ts.map TrS.ptr).length : Nat) : Int))), (14, .int .i64 (((i : Nat) : Int)))] ∧ Ext w w' ∧ (Blk w' s [.bool (true), .int .i64 (self), .int .i64 (now), .int .i64 (req), .slice (al) ((ts.map TrS.ptr).length) (cl)] 60) ∧ (OwnSl w' 90 (al) (cl) (ts.map TrS.ptr)) ∧ (TrsAt 89 97 w' ts) ∧ (OwnSl w' 82 am cm (openL self ((ts.map TrS.p).take i))) ∧ (¬ own am s) ∧ (∀ q_, own am q_ → ¬ own al q_) ∧ (∀ q_, own am q_ → ¬ trsS ts q_) ∧ (∀ q_, own am q_ → w.heap.size ≤ q_) ∧ (i ≤ ts.length)) (fun i => ts.length - i) 0 ?_ ?_
  · rw [show openL self (List.take 0 (ts.map TrS.p)) = [] from rfl]
    have ho_8 := OwnSl.nil (α := MoveC) w 82
    refine ⟨_, _, ⟨rfl, rfl, rfl, rfl, rfl, trivial⟩, (Keeps.refl _ w), hB, ho, hT, ho_8, (own_none s), (fun q_ h1 _ => own_none q_ h1), (fun q_ h1 _ => own_none q_ h1), (fun q_ h1 => absurd h1 (own_none q_)), ?_⟩
    · omega
  clear hB ho hT
  rintro i ρ_9 w_1 ⟨am, cm, hH_2, K0, hB, ho, hT, ho_3, pr_4, pr_5, pr_6, pr_7, hi⟩ ih1
  obtain ⟨ρ₀, rfl⟩ := hH_2.ex
  clear hH_2
  refine Run.seq ?_
  refine Run.region ?_
  refine RL.val (x_ltI rfl rfl) ?_
  refine RL.nil ?_
  refine Run.seq ?_
  refine Run.cond rfl (fun hc15 => ?_) (fun hc15 => ?_)
  · try simp only [br] at hc15
    refine Run.skip ?_
    refine Run.seq ?_
    refine Run.block ?_
    refine Run.seq ?_
    obtain ⟨t, l1, l2, hts, hl1, hti, hpt⟩ := tr_at (ts := ts) i (by omega)
    have hOl := openL_len (self := self) (pl := (ts.map TrS.p)) (i := i)
    have hOs := openL_snoc (self := self) (p_get hti)
    have hbt := (hT.all t (mem_tr hts)).blk
    have hLt := hok.at (mem_tr hts)
    have ne_10 : t.blk ≠ s := fun e_ => htss (e_ ▸ trs_subB hts)
    refine Run.region ?_
    obtain ⟨b_11, o_12, x_15, hx_16, ha_13, hc_14⟩ := ho.sl.el (i := i) (by first | omega | (simp only [List.length_set]; omega))
    obtain rfl : (some (⟨t.blk, 0, none⟩ : Addr)) = x_15 := Option.some.inj (hpt.symm.trans hx_16)
    refine RL.val (x_idxN Try.underlying58 ty90 rfl rfl ha_13 (by first | omega | (simp only [List.length_set]; omega))) ?_
    refine RL.val (x_ldV (v := .pointer (some ⟨t.blk, 0, none⟩)) (y := (some (⟨t.blk, 0, none⟩ : Addr))) ty90 rfl hc_14 rfl) ?_
    refine RL.val (x_assignP rfl) ?_
    refine RL.nil ?_
    refine Run.seq ?_
    refine Run.region ?_
    refine RL.val (x_moveP rfl) ?_
    refine RL.val (x_nilCheck rfl) ?_
    refine RL.val (x_fld (o' := 2) Try.underlying89 rfl ty87 rfl rfl rfl) ?_
    refine RL.val (x_ld (v := .slice (t.a) (t.left.length) (t.cap)) ty87 rfl rfl (hbt.cl.field (i := 2) rfl)) ?_
    refine RL.val (x_lenSl Try.underlying87 rfl) ?_
    refine RL.val (x_gtI rfl rfl) ?_
    refine RL.nil ?_
    refine Run.cond rfl (fun hc23 => ?_) (fun hc23 => ?_)
    · try simp only [br] at hc23
      refine Run.drawT [] (m := 17) (by kernel_rfl) rfl ?_
      intro w_17 K_18
      replace hB := hB.ext K_18
      replace ho := ho.ext K_18
      replace hT := hT.ext K_18
      replace ho_3 := ho_3.ext K_18
      replace hbt := hbt.ext K_18
      replace K0 := K0.ext K_18
      refine ⟨fun w' => Blk w' s [.bool (true), .int .i64 (self), .int .i64 (now), .int .i64 (req), .slice (al) ((ts.map TrS.ptr).length) (cl)] 60 ∧ Blk w' t.blk [.int .i64 (t.part), .int .i64 (t.to), .slice (t.a) (t.left.length) (t.cap)] 89 ∧ True, ?_⟩
      refine RT.takeP (v := .slice (am) ((openL self ((ts.map TrS.p).take i)).length) (cm)) 0 rfl (by kernel_rfl) (.inr ⟨hB, hbt, trivial⟩) (fun _ => (x_moveSl rfl)) ?_
      refine RT.takeP (v := .pointer (some ⟨t.blk, 0, none⟩)) 1 rfl (by kernel_rfl) (.inr ⟨hB, hbt, trivial⟩) (fun _ => (x_moveP rfl)) ?_
      refine RT.takeP (v := .pointer (some ⟨t.blk, 0, none⟩)) 2 rfl (by kernel_rfl) (.inr ⟨hB, hbt, trivial⟩) (fun _ => (x_nilCheck rfl)) ?_
      refine RT.takeP (v := .pointer (some ⟨t.blk, 0, none⟩)) 3 rfl (by kernel_rfl) (.inr ⟨hB, hbt, trivial⟩) (fun _ => (x_fld (o' := 0) Try.underlying89 rfl ty3 rfl rfl rfl)) ?_
      refine RT.take (v := .int .i64 (t.part)) 4 rfl (by kernel_rfl) ⟨hB, hbt, trivial⟩ (by rintro _ ⟨hB, hbt, -⟩; exact (x_ld (v := .int .i64 (t.part)) ty3 rfl rfl (hbt.cl.field (i := 0) rfl))) ?_
      refine RT.takeP (v := .pointer (some ⟨s, 0, none⟩)) 5 rfl (by kernel_rfl) (.inr ⟨hB, hbt, trivial⟩) (fun _ => (x_moveP rfl)) ?_
      refine RT.takeP (v := .pointer (some ⟨s, 0, none⟩)) 6 rfl (by kernel_rfl) (.inr ⟨hB, hbt, trivial⟩) (fun _ => (x_nilCheck rfl)) ?_
      refine RT.takeP (v := .pointer (some ⟨s, 1, none⟩)) 7 rfl (by kernel_rfl) (.inr ⟨hB, hbt, trivial⟩) (fun _ => (x_fld (o' := 1) Try.underlying60 rfl ty3 rfl rfl rfl)) ?_
      refine RT.take (v := .int .i64 (self)) 8 rfl (by kernel_rfl) ⟨hB, hbt, trivial⟩ (by rintro _ ⟨hB, hbt, -⟩; exact (x_ld (v := .int .i64 (self)) ty3 rfl rfl (hB.cl.field (i := 1) rfl))) ?_
      refine RT.takeP (v := .pointer (some ⟨t.blk, 0, none⟩)) 9 rfl (by kernel_rfl) (.inr ⟨hB, hbt, trivial⟩) (fun _ => (x_moveP rfl)) ?_
      refine RT.takeP (v := .pointer (some ⟨t.blk, 0, none⟩)) 10 rfl (by kernel_rfl) (.inr ⟨hB, hbt, trivial⟩) (fun _ => (x_nilCheck rfl)) ?_
      refine RT.takeP (v := .pointer (some ⟨t.blk, 1, none⟩)) 11 rfl (by kernel_rfl) (.inr ⟨hB, hbt, trivial⟩) (fun _ => (x_fld (o' := 1) Try.underlying89 rfl ty3 rfl rfl rfl)) ?_
      refine RT.take (v := .int .i64 (t.to)) 12 rfl (by kernel_rfl) ⟨hB, hbt, trivial⟩ (by rintro _ ⟨hB, hbt, -⟩; exact (x_ld (v := .int .i64 (t.to)) ty3 rfl rfl (hbt.cl.field (i := 1) rfl))) ?_
      refine RT.takeP (v := .agg #[.int .i64 (t.part), .int .i64 (self), .int .i64 (t.to)]) 13 rfl (by kernel_rfl) (.inr ⟨hB, hbt, trivial⟩) (fun _ => (x_build (cells := #[.int .i64 (t.part), .int .i64 (self), .int .i64 (t.to)]) (by kernel_rfl))) ?_
      refine RT.st 14 rfl (by kernel_rfl) rfl <| St1.buildSlice ([(⟨t.part, self, t.to⟩ : MoveC)] : List MoveC) Try.underlying64 ty82 rfl rfl (by first | decide | (simp [Enc.size])) ?_
      intro b_19 w_20 hl_23 ho_22 K_21
      have pr_24 : ¬ own (some ⟨b_19, 0, none⟩) s := notNew (ge_new hl_23) hB.lt
      have pr_25 : ∀ q_, own (some ⟨b_19, 0, none⟩) q_ → ¬ own al q_ := apartNew (ge_new hl_23) ho.own_lt
      have pr_26 : ∀ q_, own (some ⟨b_19, 0, none⟩) q_ → ¬ trsS ts q_ := apartNew (ge_new hl_23) hT.own_lt
      have pr_27 : ∀ q_, own (some ⟨b_19, 0, none⟩) q_ → ¬ own am q_ := apartNew (ge_new hl_23) ho_3.own_lt
      have pr_28 : ¬ own (some ⟨b_19, 0, none⟩) t.blk := notNew (ge_new hl_23) hbt.lt
      have pg_29 : ∀ q_, own (some ⟨b_19, 0, none⟩) q_ → w.heap.size ≤ q_ := fun q_ h => Nat.le_trans K0.size ((ge_new hl_23) q_ h)
      clear hl_23
      replace hB := hB.ext K_21
      replace ho := ho.ext K_21
      replace hT := hT.ext K_21
      replace ho_3 := ho_3.ext K_21
      replace hbt := hbt.ext K_21
      replace K0 := K0.ext K_21
      refine ⟨.inr ⟨hB, hbt, trivial⟩, ?_⟩
      refine RT.st 15 rfl (by kernel_rfl) rfl <| St1.append (xs := openL self ((ts.map TrS.p).take i)) (ys := ([(⟨t.part, self, t.to⟩ : MoveC)] : List MoveC)) Try.underlying64 ty82 rfl rfl rfl ho_3 ho_22.sl (by first | omega | (simp only [lr]; omega)) (by decide) ?_
      intro a_30 c_31 w_32 ho_33 K_34 hm_35 hrm_36
      have pr_37 : ¬ own a_30 s := hm_35.not pr_4 hB.lt
      have pr_38 : ∀ q_, own a_30 q_ → ¬ own al q_ := hm_35.apart pr_5 ho.own_lt
      have pr_39 : ∀ q_, own a_30 q_ → ¬ trsS ts q_ := hm_35.apart pr_6 hT.own_lt
      have pr_40 : ¬ own a_30 t.blk := hm_35.not (fun h_ => pr_6 _ h_ (trs_subB hts)) hbt.lt
      have pr_41 : ∀ q_, own a_30 q_ → ¬ own (some ⟨b_19, 0, none⟩) q_ := hm_35.apart (fun q_ h1 h2 => pr_27 q_ h2 h1) ho_22.own_lt
      have pg_42 : ∀ q_, own a_30 q_ → w.heap.size ≤ q_ := hm_35.ge pr_7 K0.size
      replace hB := hB.keep K_34 pr_4
      replace ho := ho.keepO K_34 (fun q_ h1 h2 => pr_5 q_ h2 h1)
      replace hT := hT.keepO K_34 (fun q_ h1 h2 => pr_6 q_ h2 h1)
      replace hbt := hbt.keep K_34 (fun h_ => pr_6 _ h_ (trs_subB hts))
      replace ho_22 := ho_22.keepO K_34 pr_27
      replace K0 := K0.new K_34 pr_7
      clear hm_35
      clear hrm_36
      refine ⟨.inr ⟨hB, hbt, trivial⟩, ?_⟩
      refine RT.takeP (v := .slice (a_30) (((openL self ((ts.map TrS.p).take i)) ++ ([(⟨t.part, self, t.to⟩ : MoveC)] : List MoveC)).length) (c_31)) 16 rfl (by kernel_rfl) (.inr ⟨hB, hbt, trivial⟩) (fun _ => (x_assignSl rfl)) ?_
      refine RT.done (by kernel_rfl) ?_
      refine Run.inBlock ?_
      refine Run.region ?_
      refine RL.val (litI (c := ((i + 1 : Nat) : Int)) (x_add rfl rfl (by omega) (by omega)) rfl) ?_
      refine RL.val (x_moveI rfl) ?_
      refine RL.nil ?_
      rw [if_neg (by show ¬ t.left.isEmpty = true; simp only [List.isEmpty_iff_length_eq_zero]; omega)] at hOs
      refine ih1 (i + 1) _ _ ?_ (by omega)
      rw [hOs]
      refine ⟨_, _, ⟨rfl, rfl, rfl, rfl, rfl, trivial⟩, K0, hB, ho, hT, ho_33, pr_37, pr_38, pr_39, pg_42, ?_⟩
      · omega
    · try simp only [br] at hc23
      refine Run.skip ?_
      refine Run.inBlock ?_
      refine Run.region ?_
      refine RL.val (litI (c := ((i + 1 : Nat) : Int)) (x_add rfl rfl (by omega) (by omega)) rfl) ?_
      refine RL.val (x_moveI rfl) ?_
      refine RL.nil ?_
      rw [if_pos (by show t.left.isEmpty = true; simp only [List.isEmpty_iff_length_eq_zero]; omega), List.append_nil] at hOs
      refine ih1 (i + 1) _ _ ?_ (by omega)
      rw [hOs]
      refine ⟨_, _, ⟨rfl, rfl, rfl, rfl, rfl, trivial⟩, K0, hB, ho, hT, ho_3, pr_4, pr_5, pr_6, pr_7, ?_⟩
      · omega
  · try simp only [br] at hc15
    refine Run.exit rfl ?_
    refine Run.seq ?_
    refine Run.region ?_
    refine RL.val (x_moveSl rfl) ?_
    refine RL.val (x_assignSl rfl) ?_
    refine RL.nil ?_
    refine Run.ret1 (v := .slice (am) ((openL self ((ts.map TrS.p).take i)).length) (cm)) Try.func21 rfl rfl ?_
    have hil : i = ts.length := by omega
    rw [hil, List.take_of_length_le (by rw [List.length_map]; omega)] at *
    exact ⟨_, rfl, am, cm, rfl, ho_3, pr_7, K0⟩

end Go.Proofs.Ythhhkjmlnjbnjaa
