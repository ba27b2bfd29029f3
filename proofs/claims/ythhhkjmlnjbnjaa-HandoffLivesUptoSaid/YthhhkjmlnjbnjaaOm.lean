/-
  Layer 18, the document's sender: what it is in memory; may, find, Done, Left, Open.
-/
import Derived.Test.YthhhkjmlnjbnjaaRows
import Derived.Test.YthhhkjmlnjbnjaaOh
namespace Go.Proofs.Ythhhkjmlnjbnjaa
attribute [local irreducible] St1 RL RA RT RT1 Run
structure RKey where
  name : ByteArray
  sent : Bool
  req : Int
  since : Int
instance : Enc RKey := Enc.struct (fun t => [.string t.name, .bool t.sent, .int .i64 t.req, .int .i64 t.since]) 4 (fun _ => rfl) (fun _ v hv => by simp at hv; rcases hv with rfl | rfl | rfl | rfl <;> rfl) (by decide)

def rk (x : RKey) : Item := ⟨x.name, x.req, if x.sent = true then x.since else -1⟩
def ROk (l : List RKey) : Prop := ∀ x ∈ l, x.sent = true → 0 ≤ x.since
def TrS.rp (t : TrS RKey) : PTr Item := ⟨t.part, t.to, t.left.map rk⟩
structure RSndO (w : World) (s : Nat) (al : Option Addr) (cl : Nat) (me now req : Int) (ts : List (TrS RKey)) : Prop where
  blk : Blk w s [.int .i64 me, .int .i64 now, .int .i64 req, .slice al (ts.map TrS.ptr).length cl] 105
  own : OwnSl w 110 al cl (ts.map TrS.ptr)
  trs : TrsAt 109 116 w ts
  os : ¬ Go.Proofs.Ythhhkjmlnjbnjaa.own al s
  tss : ¬ trsS ts s
  to : ∀ q, trsS ts q → ¬ Go.Proofs.Ythhhkjmlnjbnjaa.own al q
  ok : SOk me now (ts.map TrS.rp)
  rok : ∀ t ∈ ts, ROk t.left
/-- a sender of the document: where its blocks lie, and what it has -/
def RSndAt (w : World) (s : Nat) (F : Nat → Prop) (self now req : Int) (pl : List (PTr Item)) : Prop := ∃ al cl ts, F = sndS s al ts ∧ pl = ts.map TrS.rp ∧ RSndO w s al cl self now req ts
section
variable {w w' : World} {S F : Nat → Prop} {s : Nat} {al : Option Addr} {cl : Nat} {self now req : Int} {ts l1 l2 : List (TrS RKey)} {t : TrS RKey} {pl : List (PTr Item)} {l : List RKey} {x : RKey} {part to : Int}
theorem RSndO.own_lt (h : RSndO w s al cl self now req ts) : ∀ q, sndS s al ts q → q < w.heap.size := by
  rintro q (rfl | hq | hq)
  · exact h.blk.lt
  · exact h.own.own_lt q hq
  · exact h.trs.own_lt q hq
theorem RSndO.keepO (h : RSndO w s al cl self now req ts) (k : Keeps S w w') (hn : ∀ q, sndS s al ts q → ¬ S q) : RSndO w' s al cl self now req ts :=
  ⟨h.blk.keep k (hn _ (.inl rfl)), h.own.keepO k (fun q hq => hn q (.inr (.inl hq))), h.trs.keepO k (fun q hq => hn q (.inr (.inr hq))), h.os, h.tss, h.to, h.ok, h.rok⟩
theorem RSndAt.own_lt (h : RSndAt w s F self now req pl) : ∀ q, F q → q < w.heap.size := by obtain ⟨al, cl, ts, rfl, rfl, h⟩ := h; exact h.own_lt
theorem RSndAt.keepO (h : RSndAt w s F self now req pl) (k : Keeps S w w') (hn : ∀ q, F q → ¬ S q) : RSndAt w' s F self now req pl := by obtain ⟨al, cl, ts, rfl, rfl, h⟩ := h; exact ⟨al, cl, ts, rfl, rfl, h.keepO k hn⟩
theorem RSndAt.ext (h : RSndAt w s F self now req pl) (k : Ext w w') : RSndAt w' s F self now req pl := h.keepO k fun _ _ => id
theorem rptr_len (ts : List (TrS RKey)) : (ts.map TrS.ptr).length = ts.length := List.length_map ..
theorem rp_get {i : Nat} (h : ts[i]? = some t) : (ts.map TrS.rp)[i]? = some t.rp := by rw [List.getElem?_map, h]; rfl
theorem rtr_at (k : Nat) (hk : k < ts.length) : ∃ t l1 l2, ts = l1 ++ t :: l2 ∧ l1.length = k ∧ ts[k]? = some t ∧ (ts.map TrS.ptr)[k]? = some (some (⟨t.blk, 0, none⟩ : Addr)) :=
  ⟨ts[k], ts.take k, ts.drop (k + 1), by rw [← List.drop_eq_getElem_cons hk, List.take_append_drop], by rw [List.length_take]; omega, List.getElem?_eq_getElem hk, by rw [List.getElem?_map, List.getElem?_eq_getElem hk]; rfl⟩
theorem rmem_tr (e : ts = l1 ++ t :: l2) : t ∈ ts := by subst e; simp
theorem ROk.in (h : ∀ t ∈ ts, ROk t.left) (e : ts = l1 ++ t :: l2) : ROk t.left := h t (rmem_tr e)
theorem SOk.rat (h : SOk self now (ts.map TrS.rp)) (ht : t ∈ ts) : LOk now (t.left.map rk) ∧ t.left.length ≤ 4294967295 := by
  have := h.all t.rp (List.mem_map.2 ⟨t, ht, rfl⟩)
  exact ⟨this.1, by have h2 := this.2; rw [show t.rp.left = t.left.map rk from rfl, List.length_map] at h2; exact h2⟩
theorem rtr_yes (h : 0 ≤ findI (sameT part to) (ts.map TrS.rp)) : ∃ (k : Nat) (t : TrS RKey) (l1 l2 : List (TrS RKey)), findI (sameT part to) (ts.map TrS.rp) = (k : Int) ∧ k < ts.length ∧ ts = l1 ++ t :: l2 ∧ l1.length = k ∧ ts[k]? = some t ∧ (ts.map TrS.ptr)[k]? = some (some (⟨t.blk, 0, none⟩ : Addr)) ∧
    sameT part to t.rp = true ∧ (ts.map TrS.rp).find? (sameT part to) = some t.rp ∧ (ts.map TrS.rp).findIdx? (sameT part to) = some k := by
  obtain ⟨k, hk, hkl, hkp, hkn⟩ := findI_some (p := sameT part to) (xs := ts.map TrS.rp) rfl h
  rw [List.length_map] at hkl
  obtain ⟨t, l1, l2, h1, h2, h3, h4⟩ := rtr_at k hkl
  have hst := hkp _ (rp_get h3)
  exact ⟨k, t, l1, l2, hk, hkl, h1, h2, h3, h4, hst, find_at (rp_get h3) hst hkn, findIdx_some (rp_get h3) hst hkn⟩
theorem rtr_no (h : findI (sameT part to) (ts.map TrS.rp) < 0) : findI (sameT part to) (ts.map TrS.rp) = -1 ∧ (ts.map TrS.rp).find? (sameT part to) = none ∧ (ts.map TrS.rp).findIdx? (sameT part to) = none := by
  have hno := findI_none (p := sameT part to) (xs := ts.map TrS.rp) rfl h
  exact ⟨findI_no hno (Nat.le_refl _), find_no hno (Nat.le_refl _), findIdx_none hno (Nat.le_refl _)⟩
theorem sameT_r (t : TrS RKey) (part to : Int) : sameT part to t.rp = (decide (t.part = part) && decide (t.to = to)) := rfl
theorem left_len (t : TrS RKey) : t.rp.left.length = t.left.length := List.length_map ..
theorem mayE_zero : mayE self part to = 0 ↔ ¬ ((((part < 0 ∨ 64 ≤ part) ∨ to < 0) ∨ 8 ≤ to) ∨ to = self) := by
  unfold mayE
  split <;> rename_i h
  · exact ⟨fun e => absurd e (by decide), fun e => absurd h e⟩
  · exact ⟨fun _ => h, fun _ => rfl⟩
theorem sameT_y (h : t.part = part ∧ t.to = to) : sameT part to t.rp = true := by rw [sameT_r, decide_eq_true h.1, decide_eq_true h.2]; rfl
theorem sameT_n (h : ¬ t.part = part ∨ ¬ t.to = to) : sameT part to t.rp = false := by
  rw [sameT_r, Bool.eq_false_iff]
  intro e
  rw [Bool.and_eq_true, decide_eq_true_eq, decide_eq_true_eq] at e
  exact h.elim (fun h => h e.1) (fun h => h e.2)
theorem done_r (t : TrS RKey) : t.rp.left.isEmpty = decide (((t.left.length : Nat) : Int) = 0) := by rw [done_eq, left_len]
end

theorem ty103 : Ty Try.prog 103 1 24 (.slice (none) (0) (0)) false := ty_of (by kernel_rfl) (by kernel_rfl)
theorem ty106 : Ty Try.prog 106 1 24 (.slice (none) (0) (0)) false := ty_of (by kernel_rfl) (by kernel_rfl)
theorem ty110 : Ty Try.prog 110 1 8 (.pointer none) false := ty_of (by kernel_rfl) (by kernel_rfl)
theorem en57 : Enters Try.prog 57 := enters_of Try.func57 rfl (by kernel_rfl)

set_option maxRecDepth 100000 in
set_option maxHeartbeats 4000000 in
theorem rmay_ (s : Nat) (al : Option Addr) (cl : Nat) (self now req : Int) (ts : List (TrS RKey)) (part to : Int) (w : World) (hD : RSndO w s al cl self now req ts) (hL : ts.length ≤ 1000) :
    Calls Try.prog 55 #[.pointer (some ⟨s, 0, none⟩), .int .i64 (part), .int .i64 (to)] w (Ret (fun v w' => v = .bool (decide (mayE self part to = 0)) ∧ Ext w w')) := by
  obtain ⟨hB, ho, hT, hos, htss, hto, hok, hrok⟩ := hD
  have hlp := rptr_len ts
  have hs0 := hok.self0
  have hn0 := hok.now0
  refine calls_run (n := 29) Try.func55 rfl rfl rfl ?_
  refine Run.seq ?_
  refine Run.region ?_
  refine RL.val (x_assignB rfl) ?_
  refine RL.nil ?_
  refine Run.seq ?_
  refine Run.region ?_
  refine RL.val (x_moveI rfl) ?_
  refine RL.val (x_geI rfl rfl) ?_
  refine RL.val (x_moveB rfl) ?_
  refine RL.gval (wantedT rfl rfl rfl rfl) (fun hg => (x_moveI rfl)) ?_
  refine RL.gval (wantedT rfl rfl rfl rfl) (fun hg => (x_ltI (gvr hg) rfl)) ?_
  refine RL.val (x_and rfl rfl rfl) ?_
  refine RL.val (x_moveB rfl) ?_
  refine RL.gval (wantedT rfl rfl rfl rfl) (fun hg => (x_moveI rfl)) ?_
  refine RL.gval (wantedT rfl rfl rfl rfl) (fun hg => (x_geI (gvr hg) rfl)) ?_
  refine RL.val (x_and rfl rfl rfl) ?_
  refine RL.val (x_moveB rfl) ?_
  refine RL.gval (wantedT rfl rfl rfl rfl) (fun hg => (x_moveI rfl)) ?_
  refine RL.gval (wantedT rfl rfl rfl rfl) (fun hg => (x_ltI (gvr hg) rfl)) ?_
  refine RL.val (x_and rfl rfl rfl) ?_
  refine RL.val (x_moveB rfl) ?_
  refine RL.gval (wantedT rfl rfl rfl rfl) (fun hg => (x_moveI rfl)) ?_
  refine RL.gval (wantedT rfl rfl rfl rfl) (fun hg => (x_moveP rfl)) ?_
  refine RL.gval (wantedT rfl rfl rfl rfl) (fun hg => (x_nilCheck (gvr hg))) ?_
  refine RL.gval (wantedT rfl rfl rfl rfl) (fun hg => (x_fld (o' := 0) Try.underlying105 rfl ty3 rfl (gvr hg) rfl)) ?_
  refine RL.gval (wantedT rfl rfl rfl rfl) (fun hg => (x_ld (v := .int .i64 (self)) ty3 (gvr hg) rfl (hB.cl.field (i := 0) rfl))) ?_
  refine RL.gval (wantedT rfl rfl rfl rfl) (fun hg => (x_neI (gvr hg) (gvr hg))) ?_
  refine RL.val (x_and rfl rfl rfl) ?_
  refine RL.val (x_assignB rfl) ?_
  refine RL.nil ?_
  refine Run.ret1 (v := .bool (((((decide (0 ≤ part)) && (decide (part < 64))) && (decide (0 ≤ to))) && (decide (to < 8))) && (to != self))) Try.func55 rfl rfl ?_
  exact ⟨_, rfl, by rw [Value.bool.injEq, Bool.eq_iff_iff]; simp only [Bool.and_eq_true, decide_eq_true_eq, Bool.not_eq_true', decide_eq_false_iff_not, bne_iff_ne, ne_eq, mayE_zero]; omega, (Keeps.refl _ w)⟩

set_option maxRecDepth 100000 in
set_option maxHeartbeats 4000000 in
theorem rfind_ (s : Nat) (al : Option Addr) (cl : Nat) (self now req : Int) (ts : List (TrS RKey)) (part to : Int) (w : World) (hD : RSndO w s al cl self now req ts) (hL : ts.length ≤ 1000) :
    Calls Try.prog 57 #[.pointer (some ⟨s, 0, none⟩), .int .i64 (part), .int .i64 (to)] w (Ret (fun v w' => v = .int .i64 (findI (sameT part to) (ts.map TrS.rp)) ∧ Ext w w')) := by
  obtain ⟨hB, ho, hT, hos, htss, hto, hok, hrok⟩ := hD
  have hlp := rptr_len ts
  have hs0 := hok.self0
  have hn0 := hok.now0
  refine calls_run (n := 44) Try.func57 rfl rfl rfl ?_
  refine Run.seq ?_
  refine Run.region ?_
  refine RL.val (x_assignI rfl) ?_
  refine RL.nil ?_
  refine Run.seq ?_
  refine Run.seq ?_
  refine Run.region ?_
  refine RL.val (x_assignI rfl) ?_
  refine RL.nil ?_
  refine Run.block ?_
  refine Run.loop (ι := Nat) (fun i ρ' w' => Holds ρ' [(0, .pointer (some ⟨s, 0, none⟩)), (1, .int .i64 (part)), (2, .int .i64 (to)), (7, .int .i64 (((i : Nat) : Int)))] ∧ Ext w w' ∧ (Blk w' s [.int .i64 (self), .int .i64 (now), .int .i64 (req), .slice (al) ((ts.map TrS.ptr).length) (cl)] 105) ∧ (OwnSl w' 110 (al) (cl) (ts.map TrS.ptr)) ∧ (TrsAt 109 116 w' ts) ∧ (i ≤ ts.length) ∧ (NoB (sameT part to) (ts.map TrS.rp) i)) (fun i => ts.length - i) 0 ?_ ?_
  · refine ⟨⟨rfl, rfl, rfl, rfl, trivial⟩, (Keeps.refl _ w), hB, ho, hT, ?_, ?_⟩
    · omega
    · exact NoB.zero _ _
  clear hB ho hT
  rintro i ρ_3 w_1 ⟨hH_2, K0, hB, ho, hT, hi, hno⟩ ih1
  obtain ⟨ρ₀, rfl⟩ := hH_2.ex
  clear hH_2
  refine Run.seq ?_
  refine Run.seq ?_
  refine Run.region ?_
  refine RL.val (x_moveI rfl) ?_
  refine RL.val (x_moveP rfl) ?_
  refine RL.val (x_nilCheck rfl) ?_
  refine RL.val (x_fld (o' := 3) Try.underlying105 rfl ty103 rfl rfl rfl) ?_
  refine RL.val (x_ld (v := .slice (al) ((ts.map TrS.ptr).length) (cl)) ty103 rfl rfl (hB.cl.field (i := 3) rfl)) ?_
  refine RL.val (x_lenSl Try.underlying103 rfl) ?_
  refine RL.val (x_ltI rfl rfl) ?_
  refine RL.nil ?_
  refine Run.cond rfl (fun hc14 => ?_) (fun hc14 => ?_)
  · try simp only [br] at hc14
    refine Run.skip ?_
    refine Run.seq ?_
    refine Run.block ?_
    refine Run.seq ?_
    obtain ⟨t, l1, l2, hts, hl1, hti, hpt⟩ := rtr_at (ts := ts) i (by omega)
    have hbt := (hT.all t (rmem_tr hts)).blk
    have hLt := hok.rat (rmem_tr hts)
    have ne_4 : t.blk ≠ s := fun e_ => htss (e_ ▸ trs_subB hts)
    refine Run.region ?_
    refine RL.val (x_moveP rfl) ?_
    refine RL.val (x_nilCheck rfl) ?_
    refine RL.val (x_fld (o' := 3) Try.underlying105 rfl ty103 rfl rfl rfl) ?_
    refine RL.val (x_ld (v := .slice (al) ((ts.map TrS.ptr).length) (cl)) ty103 rfl rfl (hB.cl.field (i := 3) rfl)) ?_
    refine RL.val (x_moveI rfl) ?_
    obtain ⟨b_5, o_6, x_9, hx_10, ha_7, hc_8⟩ := ho.sl.el (i := i) (by first | omega | (simp only [List.length_set]; omega))
    obtain rfl : (some (⟨t.blk, 0, none⟩ : Addr)) = x_9 := Option.some.inj (hpt.symm.trans hx_10)
    refine RL.val (x_idxN Try.underlying103 ty110 rfl rfl ha_7 (by first | omega | (simp only [List.length_set]; omega))) ?_
    refine RL.val (x_ldV (v := .pointer (some ⟨t.blk, 0, none⟩)) (y := (some (⟨t.blk, 0, none⟩ : Addr))) ty110 rfl hc_8 rfl) ?_
    refine RL.val (x_nilCheck rfl) ?_
    refine RL.val (x_fld (o' := 0) Try.underlying109 rfl ty3 rfl rfl rfl) ?_
    refine RL.val (x_ld (v := .int .i64 (t.part)) ty3 rfl rfl (hbt.cl.field (i := 0) rfl)) ?_
    refine RL.val (x_moveI rfl) ?_
    refine RL.val (x_eqI rfl rfl) ?_
    refine RL.val (x_moveB rfl) ?_
    refine RL.gval (wantedT rfl rfl rfl rfl) (fun hg => (x_moveP rfl)) ?_
    refine RL.gval (wantedT rfl rfl rfl rfl) (fun hg => (x_nilCheck (gvr hg))) ?_
    refine RL.gval (wantedT rfl rfl rfl rfl) (fun hg => (x_fld (o' := 3) Try.underlying105 rfl ty103 rfl (gvr hg) rfl)) ?_
    refine RL.gval (wantedT rfl rfl rfl rfl) (fun hg => (x_ld (v := .slice (al) ((ts.map TrS.ptr).length) (cl)) ty103 (gvr hg) rfl (hB.cl.field (i := 3) rfl))) ?_
    refine RL.gval (wantedT rfl rfl rfl rfl) (fun hg => (x_moveI rfl)) ?_
    obtain ⟨b_11, o_12, x_15, hx_16, ha_13, hc_14⟩ := ho.sl.el (i := i) (by first | omega | (simp only [List.length_set]; omega))
    obtain rfl : (some (⟨t.blk, 0, none⟩ : Addr)) = x_15 := Option.some.inj (hpt.symm.trans hx_16)
    refine RL.gval (wantedT rfl rfl rfl rfl) (fun hg => (x_idxN Try.underlying103 ty110 (gvr hg) (gvr hg) ha_13 (by first | omega | (simp only [List.length_set]; omega)))) ?_
    refine RL.gval (wantedT rfl rfl rfl rfl) (fun hg => (x_ldV (v := .pointer (some ⟨t.blk, 0, none⟩)) (y := (some (⟨t.blk, 0, none⟩ : Addr))) ty110 (gvr hg) hc_14 rfl)) ?_
    refine RL.gval (wantedT rfl rfl rfl rfl) (fun hg => (x_nilCheck (gvr hg))) ?_
    refine RL.gval (wantedT rfl rfl rfl rfl) (fun hg => (x_fld (o' := 1) Try.underlying109 rfl ty3 rfl (gvr hg) rfl)) ?_
    refine RL.gval (wantedT rfl rfl rfl rfl) (fun hg => (x_ld (v := .int .i64 (t.to)) ty3 (gvr hg) rfl (hbt.cl.field (i := 1) rfl))) ?_
    refine RL.gval (wantedT rfl rfl rfl rfl) (fun hg => (x_moveI rfl)) ?_
    refine RL.gval (wantedT rfl rfl rfl rfl) (fun hg => (x_eqI (gvr hg) (gvr hg))) ?_
    refine RL.val (x_and rfl rfl rfl) ?_
    refine RL.nil ?_
    refine Run.cond rfl (fun hc42 => ?_) (fun hc42 => ?_)
    · try simp only [br] at hc42
      refine Run.seq ?_
      refine Run.region ?_
      refine RL.val (x_moveI rfl) ?_
      refine RL.val (x_assignI rfl) ?_
      refine RL.nil ?_
      refine Run.ret1 (v := .int .i64 (((i : Nat) : Int))) Try.func57 rfl rfl ?_
      exact ⟨_, rfl, by rw [findI_at (rp_get hti) (sameT_y hc42) hno], K0⟩
    · try simp only [br] at hc42
      refine Run.skip ?_
      refine Run.inBlock ?_
      refine Run.region ?_
      refine RL.val (x_moveI rfl) ?_
      refine RL.val (litI (c := ((i + 1 : Nat) : Int)) (x_add rfl rfl (by omega) (by omega)) rfl) ?_
      refine RL.val (x_assignI rfl) ?_
      refine RL.nil ?_
      refine ih1 (i + 1) _ _ ?_ (by omega)
      refine ⟨⟨rfl, rfl, rfl, rfl, trivial⟩, K0, hB, ho, hT, ?_, ?_⟩
      · omega
      · exact hno.step (rp_get hti) (sameT_n hc42)
  · try simp only [br] at hc14
    refine Run.exit rfl ?_
    refine Run.seq ?_
    refine Run.region ?_
    refine RL.val (x_assignI rfl) ?_
    refine RL.nil ?_
    refine Run.ret1 (v := .int .i64 (-1)) Try.func57 rfl rfl ?_
    exact ⟨_, rfl, by rw [findI_no hno (by rw [List.length_map]; omega)], K0⟩

set_option maxRecDepth 100000 in
set_option maxHeartbeats 4000000 in
theorem rleft_ (s : Nat) (al : Option Addr) (cl : Nat) (self now req : Int) (ts : List (TrS RKey)) (part to : Int) (w : World) (hD : RSndO w s al cl self now req ts) (hL : ts.length ≤ 1000) :
    Calls Try.prog 37 #[.pointer (some ⟨s, 0, none⟩), .int .i64 (part), .int .i64 (to)] w (Ret (fun v w' => v = .int .i64 ((leftN (ts.map TrS.rp) part to : Nat) : Int) ∧ Ext w w')) := by
  obtain ⟨hB, ho, hT, hos, htss, hto, hok, hrok⟩ := hD
  have hlp := rptr_len ts
  have hs0 := hok.self0
  have hn0 := hok.now0
  refine calls_run (n := 25) Try.func37 rfl rfl rfl ?_
  refine Run.seq ?_
  refine Run.region ?_
  refine RL.val (x_assignI rfl) ?_
  refine RL.nil ?_
  refine Run.seq ?_
  refine Run.region ?_
  refine RL.val (x_moveP rfl) ?_
  refine RL.val (x_moveI rfl) ?_
  refine RL.val (x_moveI rfl) ?_
  refine RL.st rfl <| St1.call (vals := [.pointer (some ⟨s, 0, none⟩), .int .i64 (part), .int .i64 (to)]) en57 rfl (rfind_ s al cl self now req ts part to _ (⟨hB, ho, hT, hos, htss, hto, hok, hrok⟩ : RSndO _ s al cl self now req ts) hL) ?_
  rintro _ w_1 ⟨rfl, K_2⟩
  replace hB := hB.ext K_2
  replace ho := ho.ext K_2
  replace hT := hT.ext K_2
  have K0 := (K_2 : Ext w _)
  refine RL.val (x_assignI rfl) ?_
  refine RL.nil ?_
  refine Run.seq ?_
  refine Run.seq ?_
  refine Run.region ?_
  refine RL.val (x_moveI rfl) ?_
  refine RL.val (x_ltI rfl rfl) ?_
  refine RL.nil ?_
  refine Run.cond rfl (fun hc13 => ?_) (fun hc13 => ?_)
  · try simp only [br] at hc13
    obtain ⟨hk, hfs, hfx⟩ := rtr_no (ts := ts) (part := part) (to := to) (by omega)
    refine Run.seq ?_
    refine Run.region ?_
    refine RL.val (x_assignI rfl) ?_
    refine RL.nil ?_
    refine Run.ret1 (v := .int .i64 (0)) Try.func37 rfl rfl ?_
    exact ⟨_, rfl, by rw [(left_no hfs).1]; rfl, K0⟩
  · try simp only [br] at hc13
    obtain ⟨k, t, l1, l2, hk, hkl, hts, hl1, hti, hpt, hst, hfs, hfx⟩ := rtr_yes (ts := ts) (part := part) (to := to) (by omega)
    rw [hk]
    have hbt := (hT.all t (rmem_tr hts)).blk
    have hLt := hok.rat (rmem_tr hts)
    have ne_3 : t.blk ≠ s := fun e_ => htss (e_ ▸ trs_subB hts)
    refine Run.skip ?_
    refine Run.seq ?_
    refine Run.region ?_
    refine RL.val (x_moveP rfl) ?_
    refine RL.val (x_nilCheck rfl) ?_
    refine RL.val (x_fld (o' := 3) Try.underlying105 rfl ty103 rfl rfl rfl) ?_
    refine RL.val (x_ld (v := .slice (al) ((ts.map TrS.ptr).length) (cl)) ty103 rfl rfl (hB.cl.field (i := 3) rfl)) ?_
    refine RL.val (x_moveI rfl) ?_
    obtain ⟨b_4, o_5, x_8, hx_9, ha_6, hc_7⟩ := ho.sl.el (i := k) (by first | omega | (simp only [List.length_set]; omega))
    obtain rfl : (some (⟨t.blk, 0, none⟩ : Addr)) = x_8 := Option.some.inj (hpt.symm.trans hx_9)
    refine RL.val (x_idxN Try.underlying103 ty110 rfl rfl ha_6 (by first | omega | (simp only [List.length_set]; omega))) ?_
    refine RL.val (x_ldV (v := .pointer (some ⟨t.blk, 0, none⟩)) (y := (some (⟨t.blk, 0, none⟩ : Addr))) ty110 rfl hc_7 rfl) ?_
    refine RL.val (x_nilCheck rfl) ?_
    refine RL.val (x_fld (o' := 2) Try.underlying109 rfl ty106 rfl rfl rfl) ?_
    refine RL.val (x_ld (v := .slice (t.a) (t.left.length) (t.cap)) ty106 rfl rfl (hbt.cl.field (i := 2) rfl)) ?_
    refine RL.val (x_lenSl Try.underlying106 rfl) ?_
    refine RL.val (x_assignI rfl) ?_
    refine RL.nil ?_
    refine Run.ret1 (v := .int .i64 (((t.left.length : Nat) : Int))) Try.func37 rfl rfl ?_
    exact ⟨_, rfl, by rw [(left_in hfs).1, left_len], K0⟩

set_option maxRecDepth 100000 in
set_option maxHeartbeats 4000000 in
theorem rdone_ (s : Nat) (al : Option Addr) (cl : Nat) (self now req : Int) (ts : List (TrS RKey)) (part to : Int) (w : World) (hD : RSndO w s al cl self now req ts) (hL : ts.length ≤ 1000) :
    Calls Try.prog 36 #[.pointer (some ⟨s, 0, none⟩), .int .i64 (part), .int .i64 (to)] w (Ret (fun v w' => v = .bool (doneB (ts.map TrS.rp) part to) ∧ Ext w w')) := by
  obtain ⟨hB, ho, hT, hos, htss, hto, hok, hrok⟩ := hD
  have hlp := rptr_len ts
  have hs0 := hok.self0
  have hn0 := hok.now0
  refine calls_run (n := 28) Try.func36 rfl rfl rfl ?_
  refine Run.seq ?_
  refine Run.region ?_
  refine RL.val (x_assignB rfl) ?_
  refine RL.nil ?_
  refine Run.seq ?_
  refine Run.region ?_
  refine RL.val (x_moveP rfl) ?_
  refine RL.val (x_moveI rfl) ?_
  refine RL.val (x_moveI rfl) ?_
  refine RL.st rfl <| St1.call (vals := [.pointer (some ⟨s, 0, none⟩), .int .i64 (part), .int .i64 (to)]) en57 rfl (rfind_ s al cl self now req ts part to _ (⟨hB, ho, hT, hos, htss, hto, hok, hrok⟩ : RSndO _ s al cl self now req ts) hL) ?_
  rintro _ w_1 ⟨rfl, K_2⟩
  replace hB := hB.ext K_2
  replace ho := ho.ext K_2
  replace hT := hT.ext K_2
  have K0 := (K_2 : Ext w _)
  refine RL.val (x_assignI rfl) ?_
  refine RL.nil ?_
  refine Run.seq ?_
  by_cases hh : 0 ≤ findI (sameT part to) (ts.map TrS.rp)
  · obtain ⟨k, t, l1, l2, hk, hkl, hts, hl1, hti, hpt, hst, hfs, hfx⟩ := rtr_yes (ts := ts) (part := part) (to := to) (by omega)
    rw [hk]
    have hbt := (hT.all t (rmem_tr hts)).blk
    have hLt := hok.rat (rmem_tr hts)
    have ne_3 : t.blk ≠ s := fun e_ => htss (e_ ▸ trs_subB hts)
    refine Run.region ?_
    refine RL.val (x_moveI rfl) ?_
    refine RL.val (x_geI rfl rfl) ?_
    refine RL.val (x_moveB rfl) ?_
    refine RL.gval (wantedT rfl rfl rfl rfl) (fun hg => (x_moveP rfl)) ?_
    refine RL.gval (wantedT rfl rfl rfl rfl) (fun hg => (x_nilCheck (gvr hg))) ?_
    refine RL.gval (wantedT rfl rfl rfl rfl) (fun hg => (x_fld (o' := 3) Try.underlying105 rfl ty103 rfl (gvr hg) rfl)) ?_
    refine RL.gval (wantedT rfl rfl rfl rfl) (fun hg => (x_ld (v := .slice (al) ((ts.map TrS.ptr).length) (cl)) ty103 (gvr hg) rfl (hB.cl.field (i := 3) rfl))) ?_
    refine RL.gval (wantedT rfl rfl rfl rfl) (fun hg => (x_moveI rfl)) ?_
    obtain ⟨b_4, o_5, x_8, hx_9, ha_6, hc_7⟩ := ho.sl.el (i := k) (by first | omega | (simp only [List.length_set]; omega))
    obtain rfl : (some (⟨t.blk, 0, none⟩ : Addr)) = x_8 := Option.some.inj (hpt.symm.trans hx_9)
    refine RL.gval (wantedT rfl rfl rfl rfl) (fun hg => (x_idxN Try.underlying103 ty110 (gvr hg) (gvr hg) ha_6 (by first | omega | (simp only [List.length_set]; omega)))) ?_
    refine RL.gval (wantedT rfl rfl rfl rfl) (fun hg => (x_ldV (v := .pointer (some ⟨t.blk, 0, none⟩)) (y := (some (⟨t.blk, 0, none⟩ : Addr))) ty110 (gvr hg) hc_7 rfl)) ?_
    refine RL.gval (wantedT rfl rfl rfl rfl) (fun hg => (x_nilCheck (gvr hg))) ?_
    refine RL.gval (wantedT rfl rfl rfl rfl) (fun hg => (x_fld (o' := 2) Try.underlying109 rfl ty106 rfl (gvr hg) rfl)) ?_
    refine RL.gval (wantedT rfl rfl rfl rfl) (fun hg => (x_ld (v := .slice (t.a) (t.left.length) (t.cap)) ty106 (gvr hg) rfl (hbt.cl.field (i := 2) rfl))) ?_
    refine RL.gval (wantedT rfl rfl rfl rfl) (fun hg => (x_lenSl Try.underlying106 (gvr hg))) ?_
    refine RL.gval (wantedT rfl rfl rfl rfl) (fun hg => (x_eqI (gvr hg) rfl)) ?_
    refine RL.val (x_and rfl rfl rfl) ?_
    refine RL.val (x_assignB rfl) ?_
    refine RL.nil ?_
    refine Run.ret1 (v := .bool ((decide (0 ≤ ((k : Nat) : Int))) && (((t.left.length : Nat) : Int) == 0))) Try.func36 rfl rfl ?_
    exact ⟨_, rfl, by first | (rw [(left_in hfs).2, done_r]; done) | (rw [(left_in hfs).2, done_r, decide_eq_true (by omega : (0 : Int) ≤ (k : Int))]; rfl), K0⟩
  · obtain ⟨hk, hfs, hfx⟩ := rtr_no (ts := ts) (part := part) (to := to) (by omega)
    refine Run.region ?_
    refine RL.val (x_moveI rfl) ?_
    refine RL.val (litF (x_geI rfl rfl) (by simpa using hh)) ?_
    refine RL.val (x_moveB rfl) ?_
    refine RL.guardF (wantedT0 rfl rfl rfl rfl) ?_
    refine RL.guardF (wantedT0 rfl rfl rfl rfl) ?_
    refine RL.guardF (wantedT0 rfl rfl rfl rfl) ?_
    refine RL.guardF (wantedT0 rfl rfl rfl rfl) ?_
    refine RL.guardF (wantedT0 rfl rfl rfl rfl) ?_
    refine RL.guardF (wantedT0 rfl rfl rfl rfl) ?_
    refine RL.guardF (wantedT0 rfl rfl rfl rfl) ?_
    refine RL.guardF (wantedT0 rfl rfl rfl rfl) ?_
    refine RL.guardF (wantedT0 rfl rfl rfl rfl) ?_
    refine RL.guardF (wantedT0 rfl rfl rfl rfl) ?_
    refine RL.guardF (wantedT0 rfl rfl rfl rfl) ?_
    refine RL.guardF (wantedT0 rfl rfl rfl rfl) ?_
    refine RL.val (x_and (b := false) (e := false) rfl rfl rfl) ?_
    refine RL.val (x_assignB rfl) ?_
    refine RL.nil ?_
    refine Run.ret1 (v := .bool (false)) Try.func36 rfl rfl ?_
    exact ⟨_, rfl, by rw [(left_no hfs).2], K0⟩

set_option maxRecDepth 100000 in
set_option maxHeartbeats 4000000 in
theorem ropen_ (s : Nat) (al : Option Addr) (cl : Nat) (self now req : Int) (ts : List (TrS RKey)) (w : World) (hD : RSndO w s al cl self now req ts) (hL : ts.length ≤ 1000) :
    Calls Try.prog 35 #[.pointer (some ⟨s, 0, none⟩)] w (Ret (fun v w' => ∃ a' c', v = .slice a' (openL self (ts.map TrS.rp)).length c' ∧ OwnSl w' 82 a' c' (openL self (ts.map TrS.rp)) ∧ (∀ q, own a' q → w.heap.size ≤ q) ∧ Ext w w')) := by
  obtain ⟨hB, ho, hT, hos, htss, hto, hok, hrok⟩ := hD
  have hlp := rptr_len ts
  have hs0 := hok.self0
  have hn0 := hok.now0
  refine calls_run (n := 55) Try.func35 rfl rfl rfl ?_
  refine Run.seq ?_
  refine Run.region ?_
  refine RL.val (x_assignSl rfl) ?_
  refine RL.nil ?_
  refine Run.seq ?_
  refine Run.region ?_
  refine RL.val (x_assignSl rfl) ?_
  refine RL.nil ?_
  refine Run.seq ?_
  refine Run.seq ?_
  refine Run.region ?_
  refine RL.val (x_assignI rfl) ?_
  refine RL.nil ?_
  refine Run.block ?_
  refine Run.loop (ι := Nat) (fun i ρ' w' => ∃ am : Option Addr, ∃ cm : Nat, Holds ρ' [(0, .pointer (some ⟨s, 0, none⟩)), (3, .slice (am) ((openL self ((ts.map TrS.rp).take i)).length) (cm)), (4, .int .i64 (((i : Nat) : Int)))] ∧ Ext w w' ∧ (Blk w' s [.int .i64 (self), .int .i64 (now), .int .i64 (req), .slice (al) ((ts.map TrS.ptr).length) (cl)] 105) ∧ (OwnSl w' 110 (al) (cl) (ts.map TrS.ptr)) ∧ (TrsAt 109 116 w' ts) ∧ (OwnSl w' 82 am cm (openL self ((ts.map TrS.rp).take i))) ∧ (¬ own am s) ∧ (∀ q_, own am q_ → ¬ own al q_) ∧ (∀ q_, own am q_ → ¬ trsS ts q_) ∧ (∀ q_, own am q_ → w.heap.size ≤ q_) ∧ (i ≤ ts.length)) (fun i => ts.length - i) 0 ?_ ?_
  · rw [show openL self (List.take 0 (ts.map TrS.rp)) = [] from rfl]
    have ho_8 := OwnSl.nil (α := MoveC) w 82
    refine ⟨_, _, ⟨rfl, rfl, rfl, trivial⟩, (Keeps.refl _ w), hB, ho, hT, ho_8, (own_none s), (fun q_ h1 _ => own_none q_ h1), (fun q_ h1 _ => own_none q_ h1), (fun q_ h1 => absurd h1 (own_none q_)), ?_⟩
    · omega
  clear hB ho hT
  rintro i ρ_9 w_1 ⟨am, cm, hH_2, K0, hB, ho, hT, ho_3, pr_4, pr_5, pr_6, pr_7, hi⟩ ih1
  obtain ⟨ρ₀, rfl⟩ := hH_2.ex
  clear hH_2
  refine Run.seq ?_
  refine Run.seq ?_
  refine Run.region ?_
  refine RL.val (x_moveI rfl) ?_
  refine RL.val (x_moveP rfl) ?_
  refine RL.val (x_nilCheck rfl) ?_
  refine RL.val (x_fld (o' := 3) Try.underlying105 rfl ty103 rfl rfl rfl) ?_
  refine RL.val (x_ld (v := .slice (al) ((ts.map TrS.ptr).length) (cl)) ty103 rfl rfl (hB.cl.field (i := 3) rfl)) ?_
  refine RL.val (x_lenSl Try.underlying103 rfl) ?_
  refine RL.val (x_ltI rfl rfl) ?_
  refine RL.nil ?_
  refine Run.cond rfl (fun hc11 => ?_) (fun hc11 => ?_)
  · try simp only [br] at hc11
    refine Run.skip ?_
    refine Run.seq ?_
    refine Run.block ?_
    refine Run.seq ?_
    obtain ⟨t, l1, l2, hts, hl1, hti, hpt⟩ := rtr_at (ts := ts) i (by omega)
    have hOl := openL_len (self := self) (pl := (ts.map TrS.rp)) (i := i)
    have hOs := openL_snoc (self := self) (rp_get hti)
    rw [done_r] at hOs
    have hbt := (hT.all t (rmem_tr hts)).blk
    have hLt := hok.rat (rmem_tr hts)
    have ne_10 : t.blk ≠ s := fun e_ => htss (e_ ▸ trs_subB hts)
    refine Run.region ?_
    refine RL.val (x_moveP rfl) ?_
    refine RL.val (x_nilCheck rfl) ?_
    refine RL.val (x_fld (o' := 3) Try.underlying105 rfl ty103 rfl rfl rfl) ?_
    refine RL.val (x_ld (v := .slice (al) ((ts.map TrS.ptr).length) (cl)) ty103 rfl rfl (hB.cl.field (i := 3) rfl)) ?_
    refine RL.val (x_moveI rfl) ?_
    obtain ⟨b_11, o_12, x_15, hx_16, ha_13, hc_14⟩ := ho.sl.el (i := i) (by first | omega | (simp only [List.length_set]; omega))
    obtain rfl : (some (⟨t.blk, 0, none⟩ : Addr)) = x_15 := Option.some.inj (hpt.symm.trans hx_16)
    refine RL.val (x_idxN Try.underlying103 ty110 rfl rfl ha_13 (by first | omega | (simp only [List.length_set]; omega))) ?_
    refine RL.val (x_ldV (v := .pointer (some ⟨t.blk, 0, none⟩)) (y := (some (⟨t.blk, 0, none⟩ : Addr))) ty110 rfl hc_14 rfl) ?_
    refine RL.val (x_nilCheck rfl) ?_
    refine RL.val (x_fld (o' := 2) Try.underlying109 rfl ty106 rfl rfl rfl) ?_
    refine RL.val (x_ld (v := .slice (t.a) (t.left.length) (t.cap)) ty106 rfl rfl (hbt.cl.field (i := 2) rfl)) ?_
    refine RL.val (x_lenSl Try.underlying106 rfl) ?_
    refine RL.val (x_gtI rfl rfl) ?_
    refine RL.nil ?_
    refine Run.cond rfl (fun hc25 => ?_) (fun hc25 => ?_)
    · try simp only [br] at hc25
      obtain ⟨b_19, o_20, x_23, hx_24, ha_21, hc_22⟩ := ho.sl.el (i := i) (by first | omega | (simp only [List.length_set]; omega))
      obtain rfl : (some (⟨t.blk, 0, none⟩ : Addr)) = x_23 := Option.some.inj (hpt.symm.trans hx_24)
      obtain ⟨b_25, o_26, x_29, hx_30, ha_27, hc_28⟩ := ho.sl.el (i := i) (by first | omega | (simp only [List.length_set]; omega))
      obtain rfl : (some (⟨t.blk, 0, none⟩ : Addr)) = x_29 := Option.some.inj (hpt.symm.trans hx_30)
      refine Run.drawT [] (m := 29) (by kernel_rfl) rfl ?_
      intro w_17 K_18
      replace hB := hB.ext K_18
      replace ho := ho.ext K_18
      replace hT := hT.ext K_18
      replace ho_3 := ho_3.ext K_18
      replace hbt := hbt.ext K_18
      replace hc_22 := hc_22.ext K_18
      replace hc_28 := hc_28.ext K_18
      replace K0 := K0.ext K_18
      refine ⟨fun w' => Blk w' s [.int .i64 (self), .int .i64 (now), .int .i64 (req), .slice (al) ((ts.map TrS.ptr).length) (cl)] 105 ∧ Blk w' t.blk [.int .i64 (t.part), .int .i64 (t.to), .slice (t.a) (t.left.length) (t.cap)] 109 ∧ Cl w' b_19 (o_20 + i * 1) (cellsOf (some (⟨t.blk, 0, none⟩ : Addr))) ∧ Cl w' b_25 (o_26 + i * 1) (cellsOf (some (⟨t.blk, 0, none⟩ : Addr))) ∧ True, ?_⟩
      refine RT.takeP (v := .slice (am) ((openL self ((ts.map TrS.rp).take i)).length) (cm)) 0 rfl (by kernel_rfl) (.inr ⟨hB, hbt, hc_22, hc_28, trivial⟩) (fun _ => (x_moveSl rfl)) ?_
      refine RT.takeP (v := .pointer (some ⟨s, 0, none⟩)) 1 rfl (by kernel_rfl) (.inr ⟨hB, hbt, hc_22, hc_28, trivial⟩) (fun _ => (x_moveP rfl)) ?_
      refine RT.takeP (v := .pointer (some ⟨s, 0, none⟩)) 2 rfl (by kernel_rfl) (.inr ⟨hB, hbt, hc_22, hc_28, trivial⟩) (fun _ => (x_nilCheck rfl)) ?_
      refine RT.takeP (v := .pointer (some ⟨s, 3, none⟩)) 3 rfl (by kernel_rfl) (.inr ⟨hB, hbt, hc_22, hc_28, trivial⟩) (fun _ => (x_fld (o' := 3) Try.underlying105 rfl ty103 rfl rfl rfl)) ?_
      refine RT.take (v := .slice (al) ((ts.map TrS.ptr).length) (cl)) 4 rfl (by kernel_rfl) ⟨hB, hbt, hc_22, hc_28, trivial⟩ (by rintro _ ⟨hB, hbt, hc_22, hc_28, -⟩; exact (x_ld (v := .slice (al) ((ts.map TrS.ptr).length) (cl)) ty103 rfl rfl (hB.cl.field (i := 3) rfl))) ?_
      refine RT.takeP (v := .int .i64 (((i : Nat) : Int))) 5 rfl (by kernel_rfl) (.inr ⟨hB, hbt, hc_22, hc_28, trivial⟩) (fun _ => (x_moveI rfl)) ?_
      refine RT.takeP (v := .pointer (some ⟨b_19, o_20 + i * 1, none⟩)) 6 rfl (by kernel_rfl) (.inr ⟨hB, hbt, hc_22, hc_28, trivial⟩) (fun _ => (x_idxN Try.underlying103 ty110 rfl rfl ha_21 (by first | omega | (simp only [List.length_set]; omega)))) ?_
      refine RT.take (v := .pointer (some ⟨t.blk, 0, none⟩)) 7 rfl (by kernel_rfl) ⟨hB, hbt, hc_22, hc_28, trivial⟩ (by rintro _ ⟨hB, hbt, hc_22, hc_28, -⟩; exact (x_ldV (v := .pointer (some ⟨t.blk, 0, none⟩)) (y := (some (⟨t.blk, 0, none⟩ : Addr))) ty110 rfl hc_22 rfl)) ?_
      refine RT.takeP (v := .pointer (some ⟨t.blk, 0, none⟩)) 8 rfl (by kernel_rfl) (.inr ⟨hB, hbt, hc_22, hc_28, trivial⟩) (fun _ => (x_nilCheck rfl)) ?_
      refine RT.takeP (v := .pointer (some ⟨t.blk, 0, none⟩)) 9 rfl (by kernel_rfl) (.inr ⟨hB, hbt, hc_22, hc_28, trivial⟩) (fun _ => (x_fld (o' := 0) Try.underlying109 rfl ty3 rfl rfl rfl)) ?_
      refine RT.take (v := .int .i64 (t.part)) 10 rfl (by kernel_rfl) ⟨hB, hbt, hc_22, hc_28, trivial⟩ (by rintro _ ⟨hB, hbt, hc_22, hc_28, -⟩; exact (x_ld (v := .int .i64 (t.part)) ty3 rfl rfl (hbt.cl.field (i := 0) rfl))) ?_
      refine RT.takeP (v := .pointer (some ⟨s, 0, none⟩)) 11 rfl (by kernel_rfl) (.inr ⟨hB, hbt, hc_22, hc_28, trivial⟩) (fun _ => (x_moveP rfl)) ?_
      refine RT.takeP (v := .pointer (some ⟨s, 0, none⟩)) 12 rfl (by kernel_rfl) (.inr ⟨hB, hbt, hc_22, hc_28, trivial⟩) (fun _ => (x_nilCheck rfl)) ?_
      refine RT.takeP (v := .pointer (some ⟨s, 0, none⟩)) 13 rfl (by kernel_rfl) (.inr ⟨hB, hbt, hc_22, hc_28, trivial⟩) (fun _ => (x_fld (o' := 0) Try.underlying105 rfl ty3 rfl rfl rfl)) ?_
      refine RT.take (v := .int .i64 (self)) 14 rfl (by kernel_rfl) ⟨hB, hbt, hc_22, hc_28, trivial⟩ (by rintro _ ⟨hB, hbt, hc_22, hc_28, -⟩; exact (x_ld (v := .int .i64 (self)) ty3 rfl rfl (hB.cl.field (i := 0) rfl))) ?_
      refine RT.takeP (v := .pointer (some ⟨s, 0, none⟩)) 15 rfl (by kernel_rfl) (.inr ⟨hB, hbt, hc_22, hc_28, trivial⟩) (fun _ => (x_moveP rfl)) ?_
      refine RT.takeP (v := .pointer (some ⟨s, 0, none⟩)) 16 rfl (by kernel_rfl) (.inr ⟨hB, hbt, hc_22, hc_28, trivial⟩) (fun _ => (x_nilCheck rfl)) ?_
      refine RT.takeP (v := .pointer (some ⟨s, 3, none⟩)) 17 rfl (by kernel_rfl) (.inr ⟨hB, hbt, hc_22, hc_28, trivial⟩) (fun _ => (x_fld (o' := 3) Try.underlying105 rfl ty103 rfl rfl rfl)) ?_
      refine RT.take (v := .slice (al) ((ts.map TrS.ptr).length) (cl)) 18 rfl (by kernel_rfl) ⟨hB, hbt, hc_22, hc_28, trivial⟩ (by rintro _ ⟨hB, hbt, hc_22, hc_28, -⟩; exact (x_ld (v := .slice (al) ((ts.map TrS.ptr).length) (cl)) ty103 rfl rfl (hB.cl.field (i := 3) rfl))) ?_
      refine RT.takeP (v := .int .i64 (((i : Nat) : Int))) 19 rfl (by kernel_rfl) (.inr ⟨hB, hbt, hc_22, hc_28, trivial⟩) (fun _ => (x_moveI rfl)) ?_
      refine RT.takeP (v := .pointer (some ⟨b_25, o_26 + i * 1, none⟩)) 20 rfl (by kernel_rfl) (.inr ⟨hB, hbt, hc_22, hc_28, trivial⟩) (fun _ => (x_idxN Try.underlying103 ty110 rfl rfl ha_27 (by first | omega | (simp only [List.length_set]; omega)))) ?_
      refine RT.take (v := .pointer (some ⟨t.blk, 0, none⟩)) 21 rfl (by kernel_rfl) ⟨hB, hbt, hc_22, hc_28, trivial⟩ (by rintro _ ⟨hB, hbt, hc_22, hc_28, -⟩; exact (x_ldV (v := .pointer (some ⟨t.blk, 0, none⟩)) (y := (some (⟨t.blk, 0, none⟩ : Addr))) ty110 rfl hc_28 rfl)) ?_
      refine RT.takeP (v := .pointer (some ⟨t.blk, 0, none⟩)) 22 rfl (by kernel_rfl) (.inr ⟨hB, hbt, hc_22, hc_28, trivial⟩) (fun _ => (x_nilCheck rfl)) ?_
      refine RT.takeP (v := .pointer (some ⟨t.blk, 1, none⟩)) 23 rfl (by kernel_rfl) (.inr ⟨hB, hbt, hc_22, hc_28, trivial⟩) (fun _ => (x_fld (o' := 1) Try.underlying109 rfl ty3 rfl rfl rfl)) ?_
      refine RT.take (v := .int .i64 (t.to)) 24 rfl (by kernel_rfl) ⟨hB, hbt, hc_22, hc_28, trivial⟩ (by rintro _ ⟨hB, hbt, hc_22, hc_28, -⟩; exact (x_ld (v := .int .i64 (t.to)) ty3 rfl rfl (hbt.cl.field (i := 1) rfl))) ?_
      refine RT.takeP (v := .agg #[.int .i64 (t.part), .int .i64 (self), .int .i64 (t.to)]) 25 rfl (by kernel_rfl) (.inr ⟨hB, hbt, hc_22, hc_28, trivial⟩) (fun _ => (x_build (cells := #[.int .i64 (t.part), .int .i64 (self), .int .i64 (t.to)]) (by kernel_rfl))) ?_
      refine RT.st 26 rfl (by kernel_rfl) rfl <| St1.buildSlice ([(⟨t.part, self, t.to⟩ : MoveC)] : List MoveC) Try.underlying64 ty82 rfl rfl (by first | decide | (simp [Enc.size])) ?_
      intro b_31 w_32 hl_35 ho_34 K_33
      have pr_36 : ¬ own (some ⟨b_31, 0, none⟩) s := notNew (ge_new hl_35) hB.lt
      have pr_37 : ∀ q_, own (some ⟨b_31, 0, none⟩) q_ → ¬ own al q_ := apartNew (ge_new hl_35) ho.own_lt
      have pr_38 : ∀ q_, own (some ⟨b_31, 0, none⟩) q_ → ¬ trsS ts q_ := apartNew (ge_new hl_35) hT.own_lt
      have pr_39 : ∀ q_, own (some ⟨b_31, 0, none⟩) q_ → ¬ own am q_ := apartNew (ge_new hl_35) ho_3.own_lt
      have pr_40 : ¬ own (some ⟨b_31, 0, none⟩) t.blk := notNew (ge_new hl_35) hbt.lt
      have pg_41 : ∀ q_, own (some ⟨b_31, 0, none⟩) q_ → w.heap.size ≤ q_ := fun q_ h => Nat.le_trans K0.size ((ge_new hl_35) q_ h)
      clear hl_35
      replace hB := hB.ext K_33
      replace ho := ho.ext K_33
      replace hT := hT.ext K_33
      replace ho_3 := ho_3.ext K_33
      replace hbt := hbt.ext K_33
      replace hc_22 := hc_22.ext K_33
      replace hc_28 := hc_28.ext K_33
      replace K0 := K0.ext K_33
      refine ⟨.inr ⟨hB, hbt, hc_22, hc_28, trivial⟩, ?_⟩
      refine RT.st 27 rfl (by kernel_rfl) rfl <| St1.append (xs := openL self ((ts.map TrS.rp).take i)) (ys := ([(⟨t.part, self, t.to⟩ : MoveC)] : List MoveC)) Try.underlying64 ty82 rfl rfl rfl ho_3 ho_34.sl (by first | omega | (simp only [lr]; omega)) (by decide) ?_
      intro a_42 c_43 w_44 ho_45 K_46 hm_47 hrm_48
      have pr_49 : ¬ own a_42 s := hm_47.not pr_4 hB.lt
      have pr_50 : ∀ q_, own a_42 q_ → ¬ own al q_ := hm_47.apart pr_5 ho.own_lt
      have pr_51 : ∀ q_, own a_42 q_ → ¬ trsS ts q_ := hm_47.apart pr_6 hT.own_lt
      have pr_52 : ¬ own a_42 t.blk := hm_47.not (fun h_ => pr_6 _ h_ (trs_subB hts)) hbt.lt
      have pr_53 : ∀ q_, own a_42 q_ → ¬ own (some ⟨b_31, 0, none⟩) q_ := hm_47.apart (fun q_ h1 h2 => pr_39 q_ h2 h1) ho_34.own_lt
      have pg_54 : ∀ q_, own a_42 q_ → w.heap.size ≤ q_ := hm_47.ge pr_7 K0.size
      replace hB := hB.keep K_46 pr_4
      replace ho := ho.keepO K_46 (fun q_ h1 h2 => pr_5 q_ h2 h1)
      replace hT := hT.keepO K_46 (fun q_ h1 h2 => pr_6 q_ h2 h1)
      replace hbt := hbt.keep K_46 (fun h_ => pr_6 _ h_ (trs_subB hts))
      replace hc_22 := hc_22.keep K_46 (fun h => (fun q_ h1 h2 => pr_5 q_ h2 h1) _ ((own_sub _) _ ha_21) h)
      replace hc_28 := hc_28.keep K_46 (fun h => (fun q_ h1 h2 => pr_5 q_ h2 h1) _ ((own_sub _) _ ha_27) h)
      replace ho_34 := ho_34.keepO K_46 pr_39
      replace K0 := K0.new K_46 pr_7
      clear hm_47
      clear hrm_48
      refine ⟨.inr ⟨hB, hbt, hc_22, hc_28, trivial⟩, ?_⟩
      refine RT.takeP (v := .slice (a_42) (((openL self ((ts.map TrS.rp).take i)) ++ ([(⟨t.part, self, t.to⟩ : MoveC)] : List MoveC)).length) (c_43)) 28 rfl (by kernel_rfl) (.inr ⟨hB, hbt, hc_22, hc_28, trivial⟩) (fun _ => (x_assignSl rfl)) ?_
      refine RT.done (by kernel_rfl) ?_
      refine Run.inBlock ?_
      refine Run.region ?_
      refine RL.val (x_moveI rfl) ?_
      refine RL.val (litI (c := ((i + 1 : Nat) : Int)) (x_add rfl rfl (by omega) (by omega)) rfl) ?_
      refine RL.val (x_assignI rfl) ?_
      refine RL.nil ?_
      rw [if_neg (by simp only [decide_eq_true_eq]; omega)] at hOs
      refine ih1 (i + 1) _ _ ?_ (by omega)
      rw [hOs]
      refine ⟨_, _, ⟨rfl, rfl, rfl, trivial⟩, K0, hB, ho, hT, ho_45, pr_49, pr_50, pr_51, pg_54, ?_⟩
      · omega
    · try simp only [br] at hc25
      refine Run.skip ?_
      refine Run.inBlock ?_
      refine Run.region ?_
      refine RL.val (x_moveI rfl) ?_
      refine RL.val (litI (c := ((i + 1 : Nat) : Int)) (x_add rfl rfl (by omega) (by omega)) rfl) ?_
      refine RL.val (x_assignI rfl) ?_
      refine RL.nil ?_
      rw [if_pos (by simp only [decide_eq_true_eq]; omega), List.append_nil] at hOs
      refine ih1 (i + 1) _ _ ?_ (by omega)
      rw [hOs]
      refine ⟨_, _, ⟨rfl, rfl, rfl, trivial⟩, K0, hB, ho, hT, ho_3, pr_4, pr_5, pr_6, pr_7, ?_⟩
      · omega
  · try simp only [br] at hc11
    refine Run.exit rfl ?_
    refine Run.seq ?_
    refine Run.region ?_
    refine RL.val (x_moveSl rfl) ?_
    refine RL.val (x_assignSl rfl) ?_
    refine RL.nil ?_
    refine Run.ret1 (v := .slice (am) ((openL self ((ts.map TrS.rp).take i)).length) (cm)) Try.func35 rfl rfl ?_
    have hil : i = ts.length := by omega
    rw [hil, List.take_of_length_le (by rw [List.length_map]; omega)] at *
    exact ⟨_, rfl, am, cm, rfl, ho_3, pr_7, K0⟩

end Go.Proofs.Ythhhkjmlnjbnjaa
