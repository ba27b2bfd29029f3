/-
  Layer 18's walks, third part.
-/
import Derived.Test.YthhhkjmlnjbnjaaRows
import Derived.Test.YthhhkjmlnjbnjaaOc
namespace Go.Proofs.Ythhhkjmlnjbnjaa
attribute [local irreducible] St1 RL RA RT RT1 Run

def tellS (s : Nat) (a : Option Addr) : Nat → Prop := fun q => q = s ∨ own a q
def mixA (now : Int) (l : List Item) (i : Nat) : List Item := (agedL now l).take i ++ l.drop i
def sdS (now r : Int) (l : List Item) (q : Nat) : Sd := sdI now ((agedL now l).countP sentI) r (agedL now l) q
def mixS (now r : Int) (l : List Item) (q : Nat) : List Item := (sdS now r l q).L ++ (agedL now l).drop q
section
variable {now r : Int} {l : List Item} {i q : Nat} {x y : Item}
theorem aged_len : (agedL now l).length = l.length := List.length_map ..
theorem aged_get (h : l[i]? = some x) : (agedL now l)[i]? = some (ageI now x) := by rw [agedL, List.getElem?_map, h]; rfl
theorem mixA_len (h : i ≤ l.length) : (mixA now l i).length = l.length := by rw [mixA, List.length_append, List.length_take, List.length_drop, aged_len]; omega
theorem mixA_zero : mixA now l 0 = l := by rw [mixA, List.take_zero, List.drop_zero, List.nil_append]
theorem mixA_get (h : (mixA now l i)[i]? = some x) (hi : i ≤ l.length) : l[i]? = some x := by
  rw [mixA, List.getElem?_append_right (by rw [List.length_take, aged_len]; omega), List.getElem?_drop, List.length_take, aged_len, Nat.min_eq_left hi] at h
  simpa using h
theorem mixA_set (h : l[i]? = some x) (e : ageI now x = y) : mixA now l (i + 1) = (mixA now l i).set i y := by
  have hi := (List.getElem?_eq_some_iff.1 h).1
  have hl : ((agedL now l).take i).length = i := by rw [List.length_take, aged_len]; omega
  rw [mixA, mixA, take_snoc' (aged_get h), e, List.drop_eq_getElem_cons hi, List.set_append_right _ _ (by omega), hl, Nat.sub_self, List.set_cons_zero, List.append_assoc]; rfl
theorem mixA_same (h : l[i]? = some x) (e : ageI now x = x) : mixA now l (i + 1) = mixA now l i := by
  have hi := (List.getElem?_eq_some_iff.1 h).1
  have hx : l[i] = x := by rw [List.getElem?_eq_getElem hi] at h; simpa using h
  rw [mixA, mixA, take_snoc' (aged_get h), e, List.drop_eq_getElem_cons hi, hx, List.append_assoc]; rfl
theorem cnt_succ {p : Item → Bool} (h : l[i]? = some x) : (l.take (i + 1)).countP p = (l.take i).countP p + (if p x then 1 else 0) := by rw [take_snoc' h, List.countP_append, List.countP_singleton]
theorem sdS_c0 (h : i = l.length) : (sdS now r l 0).c = ((agedL now l).take i).countP sentI := by rw [h, List.take_of_length_le (by rw [aged_len]; exact Nat.le_refl _)]; rfl
theorem mixS_zero (h : i = l.length) : mixS now r l 0 = mixA now l i := by rw [h, mixA, List.take_of_length_le (by rw [aged_len]; exact Nat.le_refl _), List.drop_length, List.append_nil]; rfl
theorem sdS_L (h : q ≤ l.length) : (sdS now r l q).L.length = q := sdI_len _ (by rw [aged_len]; exact h)
theorem mixS_len (h : q ≤ l.length) : (mixS now r l q).length = l.length := by rw [mixS, List.length_append, sdS_L h, List.length_drop, aged_len]; omega
theorem mixS_get (h : (mixS now r l q)[q]? = some x) (hq : q ≤ l.length) : (agedL now l)[q]? = some x := by
  rw [mixS, List.getElem?_append_right (by rw [sdS_L hq]; exact Nat.le_refl _), List.getElem?_drop, sdS_L hq] at h
  simpa using h
theorem sdS_skip (h : (agedL now l)[q]? = some x) (hc : 0 ≤ x.since ∨ 4 ≤ (sdS now r l q).c) : sdS now r l (q + 1) = ⟨(sdS now r l q).c, (sdS now r l q).r, (sdS now r l q).L ++ [x], (sdS now r l q).T⟩ := by
  exact (sdI_succ h).trans (if_pos hc)
theorem sdS_send (h : (agedL now l)[q]? = some x) (hc : ¬ (0 ≤ x.since ∨ 4 ≤ (sdS now r l q).c)) : sdS now r l (q + 1) = ⟨(sdS now r l q).c + 1, (sdS now r l q).r + 1, (sdS now r l q).L ++ [⟨x.key, (sdS now r l q).r + 1, now⟩], (sdS now r l q).T ++ [⟨x.key, (sdS now r l q).r + 1, now⟩]⟩ := by
  exact (sdI_succ h).trans (if_neg hc)
theorem mixS_same (h : (agedL now l)[q]? = some x) (hc : (sdS now r l (q + 1)).L = (sdS now r l q).L ++ [x]) : mixS now r l (q + 1) = mixS now r l q := by
  have hi := (List.getElem?_eq_some_iff.1 h).1
  have hx : (agedL now l)[q] = x := by rw [List.getElem?_eq_getElem hi] at h; simpa using h
  rw [mixS, mixS, hc, List.drop_eq_getElem_cons hi, hx, List.append_assoc]; rfl
theorem mixS_set (h : (agedL now l)[q]? = some x) (hc : (sdS now r l (q + 1)).L = (sdS now r l q).L ++ [y]) : mixS now r l (q + 1) = (mixS now r l q).set q y := by
  have hi := (List.getElem?_eq_some_iff.1 h).1
  have hl : (sdS now r l q).L.length = q := sdS_L (by rw [aged_len] at hi; omega)
  rw [mixS, mixS, hc, List.drop_eq_getElem_cons hi, List.set_append_right _ _ (by omega), hl, Nat.sub_self, List.set_cons_zero, List.append_assoc]; rfl
theorem mixS_end (h : q = l.length) : mixS now r l q = (tellP now r l).L := by rw [h, mixS, List.drop_of_length_le (by rw [aged_len]; exact Nat.le_refl _), List.append_nil]; rfl
theorem sdS_end (h : q = l.length) : sdS now r l q = tellP now r l := by rw [h]; rfl
theorem sdS_T (h : q ≤ l.length) : (sdS now r l q).T.length + (agedL now l).countP sentI = (sdS now r l q).c ∧ (sdS now r l q).r = r + (sdS now r l q).T.length ∧ (sdS now r l q).T.length ≤ 4 := by
  obtain ⟨h1, h2, h3⟩ := sdI_T (now := now) (w := (agedL now l).countP sentI) (r := r) (l := agedL now l) q (by rw [aged_len]; exact h)
  refine ⟨h1, h2, ?_⟩
  unfold sdS at *
  omega
theorem age_yes (h1 : 0 ≤ x.since) (h2 : 1000 ≤ now - x.since) : ageI now x = ⟨x.key, x.req, -1⟩ := if_pos ⟨h1, h2⟩
theorem age_no (h : ¬ (0 ≤ x.since ∧ 1000 ≤ now - x.since)) : ageI now x = x := if_neg h
end

theorem ty46 : Ty Try.prog 46 17 240 (.agg #[.int .i64 (0), .int .i64 (0), .int .i64 (0), .int .i64 (0), .string (⟨#[]⟩), .slice (none) (0) (0), .slice (none) (0) (0), .slice (none) (0) (0), .int .i64 (0), .int .i64 (0), .int .i64 (0), .int .i64 (0), .int .i64 (0), .int .i64 (0), .slice (none) (0) (0), .slice (none) (0) (0), .slice (none) (0) (0)]) true := ty_of (by kernel_rfl) (by kernel_rfl)
theorem en113 : Enters Try.prog 113 := enters_of Try.func113 rfl (by kernel_rfl)

set_option maxRecDepth 100000 in
set_option maxHeartbeats 4000000 in
theorem tell_ (s : Nat) (al : Option Addr) (n cl : Nat) (self now req : Int) (b : Nat) (part to : Int) (a : Option Addr) (c : Nat) (l : List Item) (w : World) (hB : Blk w s [.bool true, .int .i64 self, .int .i64 now, .int .i64 req, .slice al n cl] 60) (hbt : Blk w b [.int .i64 part, .int .i64 to, .slice a l.length c] 89) (hot : OwnSl w 97 a c l) (hoa : ¬ own a b) (hos : ¬ own a s) (hsb : b ≠ s) (hk : LOk now l) (h0 : 0 ≤ now ∧ now ≤ 9223372036854775807) (hl : l.length ≤ 4294967295) (hr : 0 ≤ req ∧ req ≤ 1099511627776) :
    Calls Try.prog 113 #[.pointer (some ⟨s, 0, none⟩), .pointer (some ⟨b, 0, none⟩)] w (Ret (fun v w' => ∃ a' c', v = .slice a' ((tellP now req l).T.map (msgH self to part)).length c' ∧ OwnSl w' 46 a' c' ((tellP now req l).T.map (msgH self to part)) ∧ (∀ q, own a' q → w.heap.size ≤ q) ∧ Blk w' s [.bool true, .int .i64 self, .int .i64 now, .int .i64 (tellP now req l).r, .slice al n cl] 60 ∧ OwnSl w' 97 a c (tellP now req l).L ∧ Keeps (tellS s a) w w')) := by
  refine calls_run (n := 130) Try.func113 rfl rfl rfl ?_
  refine Run.seq ?_
  refine Run.region ?_
  refine RL.val (x_assignSl rfl) ?_
  refine RL.nil ?_
  refine Run.seq ?_
  refine Run.region ?_
  refine RL.val (x_assignI rfl) ?_
  refine RL.nil ?_
  refine Run.seq ?_
  refine Run.seq ?_
  refine Run.region ?_
  refine RL.val (x_moveP rfl) ?_
  refine RL.val (x_nilCheck rfl) ?_
  refine RL.val (x_fld (o' := 2) Try.underlying89 rfl ty87 rfl rfl rfl) ?_
  refine RL.val (x_ld (v := .slice (a) (l.length) (c)) ty87 rfl rfl (hbt.cl.field (i := 2) rfl)) ?_
  refine RL.val (x_lenSl Try.underlying87 rfl) ?_
  refine RL.val (x_moveI rfl) ?_
  refine RL.nil ?_
  refine Run.block ?_
  refine Run.loop (ι := Nat) (fun i ρ' w' => Holds ρ' [(0, .pointer (some ⟨s, 0, none⟩)), (1, .pointer (some ⟨b, 0, none⟩)), (5, .int .i64 (((((agedL now l).take i).countP sentI : Nat) : Int))), (14, .slice (a) (l.length) (c)), (15, .int .i64 (((l.length : Nat) : Int))), (16, .int .i64 (((i : Nat) : Int)))] ∧ Keeps (tellS s a) w w' ∧ (Blk w' s [.bool (true), .int .i64 (self), .int .i64 (now), .int .i64 (req), .slice (al) (n) (cl)] 60) ∧ (Blk w' b [.int .i64 (part), .int .i64 (to), .slice (a) ((mixA now l i).length) (c)] 89) ∧ (OwnSl w' 97 a c (mixA now l i)) ∧ (¬ own a s) ∧ (¬ own a b) ∧ (∀ q_, own a q_ → q_ < w.heap.size → (tellS s a) q_) ∧ (i ≤ l.length)) (fun i => l.length - i) 0 ?_ ?_
  · rw [mixA_zero, List.take_zero, List.countP_nil]
    refine ⟨⟨rfl, rfl, rfl, rfl, rfl, rfl, trivial⟩, (Keeps.refl _ w), hB, hbt, hot, hos, hoa, (fun q_ h_ _ => Or.inr h_), ?_⟩
    · omega
  clear hB hot hbt
  rintro i ρ_7 w_1 ⟨hH_2, K0, hB, hbt, ho_3, pr_4, pr_5, pr_6, hi⟩ ih1
  obtain ⟨ρ₀, rfl⟩ := hH_2.ex
  clear hH_2
  refine Run.seq ?_
  refine Run.region ?_
  refine RL.val (x_ltI rfl rfl) ?_
  refine RL.nil ?_
  refine Run.seq ?_
  refine Run.cond rfl (fun hc17 => ?_) (fun hc17 => ?_)
  · try simp only [br] at hc17
    refine Run.skip ?_
    refine Run.seq ?_
    refine Run.block ?_
    refine Run.seq ?_
    refine Run.region ?_
    refine RL.val (x_moveI rfl) ?_
    obtain ⟨b_8, o_9, x, hx, ha_10, hc_11⟩ := ho_3.sl.el (i := i) (by first | omega | (rw [mixA_len (by omega)]; omega) | (rw [mixS_len (by omega)]; omega) | (simp only [List.length_set]; rw [mixS_len (by omega)]; omega))
    refine RL.val (x_idxN Try.underlying87 ty97 rfl rfl ha_10 (by first | omega | (rw [mixA_len (by omega)]; omega) | (rw [mixS_len (by omega)]; omega) | (simp only [List.length_set]; rw [mixS_len (by omega)]; omega))) ?_
    refine RL.val (x_ldV (v := .agg #[.string ((x).key), .int .i64 ((x).req), .int .i64 ((x).since)]) (y := x) ty97 rfl hc_11 rfl) ?_
    refine RL.st rfl <| St1.alloc ty97 ?_
    intro b_14 w_15 hl_18 hb_17 K_16
    replace hb_17 : Blk w_15 b_14 [.string (⟨#[]⟩), .int .i64 (0), .int .i64 (0)] 97 := hb_17
    have ne_19 : s < b_14 := Nat.lt_of_lt_of_le hB.lt hl_18
    have ne_20 : b < b_14 := Nat.lt_of_lt_of_le hbt.lt hl_18
    have ne_21 : b_8 < b_14 := Nat.lt_of_lt_of_le hc_11.lt hl_18
    have pr_22 : ¬ own a b_14 := fun h => absurd (ho_3.own_lt _ h) (by omega)
    have : w.heap.size ≤ b_14 := Nat.le_trans K0.size hl_18
    clear hl_18
    replace hB := hB.ext K_16
    replace hbt := hbt.ext K_16
    replace ho_3 := ho_3.ext K_16
    replace hc_11 := hc_11.ext K_16
    replace K0 := K0.ext K_16
    refine RL.val (x_assignI rfl) ?_
    refine RL.st rfl <| St1.store (v := .agg #[.string ((x).key), .int .i64 ((x).req), .int .i64 ((x).since)]) ty97 rfl rfl rfl (by simp [Value.cells, Value.oneCell']) hb_17 (by simp) ?_
    intro w_23 hb_17_ K_24
    have hb_17' : Blk w_23 b_14 [.string ((x).key), .int .i64 ((x).req), .int .i64 ((x).since)] 97 := hb_17_
    clear hb_17_
    replace hB := hB.keep K_24 (by simp only [one]; omega)
    replace hbt := hbt.keep K_24 (by simp only [one]; omega)
    replace ho_3 := ho_3.keepO K_24 (fun q_ hq_ eq_ => pr_22 (by simp only [one] at eq_; rw [← eq_]; exact hq_))
    replace hc_11 := hc_11.keep K_24 (fun e => pr_22 (by simp only [one] at e; rw [← e]; exact (own_sub _) _ ha_10))
    replace K0 := K0.trans K_24 (fun x hlt hx => absurd hlt (by simp only [one] at hx; omega))
    replace hb_17 := hb_17'
    clear hb_17'
    refine RL.nil ?_
    have hx0 := mixA_get hx (by omega)
    obtain ⟨hx1, hx2, hx3⟩ := hk x (mem_of_at hx0)
    have hcs := cnt_succ (p := sentI) (aged_get (now := now) hx0)
    have hcl := List.countP_le_length (p := sentI) (l := (agedL now l).take i)
    have hct := List.length_take_le i (agedL now l)
    refine Run.seq ?_
    refine Run.draw' (m := 13) (by kernel_rfl) rfl ?_
    intro w_25 K_26
    replace hB := hB.ext K_26
    replace hbt := hbt.ext K_26
    replace ho_3 := ho_3.ext K_26
    replace hb_17 := hb_17.ext K_26
    replace K0 := K0.ext K_26
    refine RA.take (v := .pointer (some ⟨b_14, 2, none⟩)) 0 rfl (by kernel_rfl) rfl (by rintro _ rfl; exact (x_fld (o' := 2) Try.underlying97 rfl ty3 rfl rfl rfl)) ?_
    refine RA.take (v := .int .i64 ((x).since)) 1 rfl (by kernel_rfl) rfl (by rintro _ rfl; exact (x_ld (v := .int .i64 ((x).since)) ty3 rfl rfl (hb_17.cl.field (i := 2) rfl))) ?_
    refine RA.take (v := .bool (decide (0 ≤ ((x).since)))) 2 rfl (by kernel_rfl) rfl (by rintro _ rfl; exact (x_geI rfl rfl)) ?_
    refine RA.take (v := .bool (decide (0 ≤ ((x).since)))) 3 rfl (by kernel_rfl) rfl (by rintro _ rfl; exact (x_moveB rfl)) ?_
    refine RA.gtake (v := .pointer (some ⟨s, 0, none⟩)) 4 rfl (by kernel_rfl) rfl (wantedT rfl rfl rfl rfl) (fun hg => by rintro _ rfl; exact (x_moveP rfl)) ?_
    refine RA.gtake (v := .pointer (some ⟨s, 0, none⟩)) 5 rfl (by kernel_rfl) rfl (wantedT rfl rfl rfl rfl) (fun hg => by rintro _ rfl; exact (x_nilCheck (gvr hg))) ?_
    refine RA.gtake (v := .pointer (some ⟨s, 2, none⟩)) 6 rfl (by kernel_rfl) rfl (wantedT rfl rfl rfl rfl) (fun hg => by rintro _ rfl; exact (x_fld (o' := 2) Try.underlying60 rfl ty3 rfl (gvr hg) rfl)) ?_
    refine RA.gtake (v := .int .i64 (now)) 7 rfl (by kernel_rfl) rfl (wantedT rfl rfl rfl rfl) (fun hg => by rintro _ rfl; exact (x_ld (v := .int .i64 (now)) ty3 (gvr hg) rfl (hB.cl.field (i := 2) rfl))) ?_
    refine RA.gtake (v := .pointer (some ⟨b_14, 2, none⟩)) 8 rfl (by kernel_rfl) rfl (wantedT rfl rfl rfl rfl) (fun hg => by rintro _ rfl; exact (x_fld (o' := 2) Try.underlying97 rfl ty3 rfl rfl rfl)) ?_
    refine RA.gtake (v := .int .i64 ((x).since)) 9 rfl (by kernel_rfl) rfl (wantedT rfl rfl rfl rfl) (fun hg => by rintro _ rfl; exact (x_ld (v := .int .i64 ((x).since)) ty3 (gvr hg) rfl (hb_17.cl.field (i := 2) rfl))) ?_
    refine RA.gtake (v := .int .i64 (now - ((x).since))) 10 rfl (by kernel_rfl) rfl (wantedT rfl rfl rfl rfl) (fun hg => by rintro _ rfl; exact (x_sub (gvr hg) (gvr hg) (by simp only [br] at hg; omega) (by simp only [br] at hg; omega))) ?_
    refine RA.gtake (v := .bool (decide (1000 ≤ (now - ((x).since))))) 11 rfl (by kernel_rfl) rfl (wantedT rfl rfl rfl rfl) (fun hg => by rintro _ rfl; exact (x_geI (gvr hg) rfl)) ?_
    refine RA.take (v := .bool ((decide (0 ≤ ((x).since))) && (decide (1000 ≤ (now - ((x).since)))))) 12 rfl (by kernel_rfl) rfl (by rintro _ rfl; exact (x_and rfl rfl rfl)) ?_
    refine RA.done (by kernel_rfl) ?_
    refine Run.cond rfl (fun hc33 => ?_) (fun hc33 => ?_)
    · try simp only [br] at hc33
      refine Run.region ?_
      refine RL.val (x_moveP rfl) ?_
      refine RL.val (x_nilCheck rfl) ?_
      refine RL.val (x_fld (o' := 2) Try.underlying89 rfl ty87 rfl rfl rfl) ?_
      refine RL.val (x_ld (v := .slice (a) ((mixA now l i).length) (c)) ty87 rfl rfl (hbt.cl.field (i := 2) rfl)) ?_
      refine RL.val (x_moveI rfl) ?_
      obtain ⟨b_27, o_28, x_31, hx_32, ha_29, hc_30⟩ := ho_3.sl.el (i := i) (by first | omega | (rw [mixA_len (by omega)]; omega) | (rw [mixS_len (by omega)]; omega) | (simp only [List.length_set]; rw [mixS_len (by omega)]; omega))
      obtain rfl : x = x_31 := Option.some.inj (hx.symm.trans hx_32)
      refine RL.val (x_idxN Try.underlying87 ty97 rfl rfl ha_29 (by first | omega | (rw [mixA_len (by omega)]; omega) | (rw [mixS_len (by omega)]; omega) | (simp only [List.length_set]; rw [mixS_len (by omega)]; omega))) ?_
      refine RL.val (x_fld (o' := o_28 + i * 3 + 2) Try.underlying97 rfl ty3 rfl rfl rfl) ?_
      refine RL.st rfl <| St1.storeEl (v := .int .i64 (-1)) (off := 2) (i := i) (⟨x.key, x.req, -1⟩ : Item) ty3 rfl rfl rfl (by simp [Value.cells, Value.oneCell']) ho_3 ha_29 hx_32 rfl (by decide) rfl ?_
      intro w_33 ho_35 K_34
      clear hc_30
      replace hB := hB.keep K_34 pr_4
      replace hbt := hbt.keep K_34 pr_5
      replace hb_17 := hb_17.keep K_34 pr_22
      replace K0 := K0.trans K_34 (fun x hlt hx => pr_6 x hx hlt)
      replace ho_3 := ho_35
      clear ho_35
      refine RL.nil ?_
      refine Run.inBlock ?_
      refine Run.region ?_
      refine RL.val (x_add rfl rfl (by omega) (by omega)) ?_
      refine RL.val (x_moveI rfl) ?_
      refine RL.nil ?_
      have e0 := age_yes hc33.1 hc33.2
      rw [e0, if_neg (by simp [sentI])] at hcs
      have e := mixA_set hx0 e0
      refine ih1 (i + 1) _ _ ?_ (by omega)
      rw [hcs, e, List.length_set]
      refine ⟨⟨rfl, rfl, rfl, rfl, rfl, rfl, trivial⟩, K0, hB, hbt, ho_3, pr_4, pr_5, pr_6, ?_⟩
      · omega
    · try simp only [br] at hc33
      refine Run.seq ?_
      refine Run.region ?_
      refine RL.val (x_fld (o' := 2) Try.underlying97 rfl ty3 rfl rfl rfl) ?_
      refine RL.val (x_ld (v := .int .i64 ((x).since)) ty3 rfl rfl (hb_17.cl.field (i := 2) rfl)) ?_
      refine RL.val (x_geI rfl rfl) ?_
      refine RL.nil ?_
      refine Run.cond rfl (fun hc43 => ?_) (fun hc43 => ?_)
      · try simp only [br] at hc43
        refine Run.region ?_
        refine RL.val (x_moveI rfl) ?_
        refine RL.val (x_add rfl rfl (by omega) (by omega)) ?_
        refine RL.val (x_assignI rfl) ?_
        refine RL.nil ?_
        refine Run.inBlock ?_
        refine Run.region ?_
        refine RL.val (x_add rfl rfl (by omega) (by omega)) ?_
        refine RL.val (x_moveI rfl) ?_
        refine RL.nil ?_
        have e0 := age_no (now := now) (x := x) (by omega)
        rw [e0, if_pos (by simp only [sentI, decide_eq_true_eq]; omega)] at hcs
        have e := mixA_same hx0 e0
        refine ih1 (i + 1) _ _ ?_ (by omega)
        rw [hcs, e]
        refine ⟨⟨rfl, rfl, rfl, rfl, rfl, rfl, trivial⟩, K0, hB, hbt, ho_3, pr_4, pr_5, pr_6, ?_⟩
        · omega
      · try simp only [br] at hc43
        refine Run.skip ?_
        refine Run.inBlock ?_
        refine Run.region ?_
        refine RL.val (x_add rfl rfl (by omega) (by omega)) ?_
        refine RL.val (x_moveI rfl) ?_
        refine RL.nil ?_
        have e0 := age_no (now := now) (x := x) (by omega)
        rw [e0, if_neg (by simp only [sentI, decide_eq_true_eq]; omega)] at hcs
        have e := mixA_same hx0 e0
        refine ih1 (i + 1) _ _ ?_ (by omega)
        rw [hcs, e]
        refine ⟨⟨rfl, rfl, rfl, rfl, rfl, rfl, trivial⟩, K0, hB, hbt, ho_3, pr_4, pr_5, pr_6, ?_⟩
        · omega
  · try simp only [br] at hc17
    refine Run.exit rfl ?_
    refine Run.seq ?_
    have hil : i = l.length := by omega
    have hml : (mixA now l i).length = l.length := mixA_len (by omega)
    refine Run.region ?_
    refine RL.val (x_assignSl rfl) ?_
    refine RL.nil ?_
    refine Run.seq ?_
    refine Run.seq ?_
    refine Run.region ?_
    refine RL.val (x_moveP rfl) ?_
    refine RL.val (x_nilCheck rfl) ?_
    refine RL.val (x_fld (o' := 2) Try.underlying89 rfl ty87 rfl rfl rfl) ?_
    refine RL.val (x_ld (v := .slice (a) ((mixA now l i).length) (c)) ty87 rfl rfl (hbt.cl.field (i := 2) rfl)) ?_
    refine RL.val (x_lenSl Try.underlying87 rfl) ?_
    refine RL.val (x_moveI rfl) ?_
    refine RL.nil ?_
    refine Run.block ?_
    refine Run.loop (ι := Nat) (fun q ρ' w' => ∃ am : Option Addr, ∃ cm : Nat, Holds ρ' [(0, .pointer (some ⟨s, 0, none⟩)), (1, .pointer (some ⟨b, 0, none⟩)), (5, .int .i64 ((((sdS now req l q).c : Nat) : Int))), (8, .slice (am) (((sdS now req l q).T.map (msgH self to part)).length) (cm)), (50, .slice (a) ((mixA now l i).length) (c)), (51, .int .i64 ((((mixA now l i).length : Nat) : Int))), (52, .int .i64 (((q : Nat) : Int)))] ∧ Keeps (tellS s a) w w' ∧ (Blk w' s [.bool (true), .int .i64 (self), .int .i64 (now), .int .i64 ((sdS now req l q).r), .slice (al) (n) (cl)] 60) ∧ (Blk w' b [.int .i64 (part), .int .i64 (to), .slice (a) ((mixS now req l q).length) (c)] 89) ∧ (OwnSl w' 97 a c (mixS now req l q)) ∧ (OwnSl w' 46 am cm ((sdS now req l q).T.map (msgH self to part))) ∧ (¬ own a s) ∧ (¬ own a b) ∧ (∀ q_, own a q_ → ¬ own am q_) ∧ (∀ q_, own a q_ → q_ < w.heap.size → (tellS s a) q_) ∧ (¬ own am s) ∧ (¬ own am b) ∧ (∀ q_, own am q_ → q_ < w.heap.size → (tellS s a) q_) ∧ (∀ q_, own am q_ → w.heap.size ≤ q_) ∧ (q ≤ l.length)) (fun q => l.length - q) 0 ?_ ?_
    · rw [sdS_c0 hil, mixS_zero hil, show (sdS now req l 0).r = req from rfl, show (sdS now req l 0).T.map (msgH self to part) = [] from rfl]
      have ho_48 := OwnSl.nil (α := HMsg) w_1 46
      refine ⟨_, _, ⟨rfl, rfl, rfl, rfl, rfl, rfl, rfl, trivial⟩, K0, hB, hbt, ho_3, ho_48, pr_4, pr_5, (fun q_ h1 h2 => (fun q_ h1 _ => own_none q_ h1) q_ h2 h1), pr_6, (own_none s), (own_none b), (fun q_ h1 _ => absurd h1 (own_none q_)), (fun q_ h1 => absurd h1 (own_none q_)), ?_⟩
      · omega
    clear hB hbt ho_3
    clear K0
    rintro q ρ_49 w_36 ⟨am, cm, hH_37, K0, hB, hbt, ho_38, ho_39, pr_40, pr_41, pr_42, pr_43, pr_44, pr_45, pr_46, pr_47, hq⟩ ih2
    obtain ⟨ρ₀, rfl⟩ := hH_37.ex
    clear hH_37
    refine Run.seq ?_
    refine Run.region ?_
    refine RL.val (x_ltI rfl rfl) ?_
    refine RL.nil ?_
    refine Run.seq ?_
    refine Run.cond rfl (fun hc53 => ?_) (fun hc53 => ?_)
    · try simp only [br] at hc53
      refine Run.skip ?_
      refine Run.seq ?_
      refine Run.block ?_
      refine Run.seq ?_
      obtain ⟨hT1, hT2, hT3⟩ := sdS_T (now := now) (r := req) (l := l) (q := q) (by omega)
      have hcw := List.countP_le_length (p := sentI) (l := agedL now l)
      rw [aged_len] at hcw
      refine Run.region ?_
      refine RL.val (x_moveI rfl) ?_
      obtain ⟨b_50, o_51, y, hy, ha_52, hc_53⟩ := ho_38.sl.el (i := q) (by first | omega | (rw [mixA_len (by omega)]; omega) | (rw [mixS_len (by omega)]; omega) | (simp only [List.length_set]; rw [mixS_len (by omega)]; omega))
      refine RL.val (x_idxN Try.underlying87 ty97 rfl rfl ha_52 (by first | omega | (rw [mixA_len (by omega)]; omega) | (rw [mixS_len (by omega)]; omega) | (simp only [List.length_set]; rw [mixS_len (by omega)]; omega))) ?_
      refine RL.val (x_ldV (v := .agg #[.string ((y).key), .int .i64 ((y).req), .int .i64 ((y).since)]) (y := y) ty97 rfl hc_53 rfl) ?_
      refine RL.st rfl <| St1.alloc ty97 ?_
      intro b_56 w_57 hl_60 hb_59 K_58
      replace hb_59 : Blk w_57 b_56 [.string (⟨#[]⟩), .int .i64 (0), .int .i64 (0)] 97 := hb_59
      have ne_61 : s < b_56 := Nat.lt_of_lt_of_le hB.lt hl_60
      have ne_62 : b < b_56 := Nat.lt_of_lt_of_le hbt.lt hl_60
      have ne_63 : b_50 < b_56 := Nat.lt_of_lt_of_le hc_53.lt hl_60
      have pr_64 : ¬ own a b_56 := fun h => absurd (ho_38.own_lt _ h) (by omega)
      have pr_65 : ¬ own am b_56 := fun h => absurd (ho_39.own_lt _ h) (by omega)
      have : w.heap.size ≤ b_56 := Nat.le_trans K0.size hl_60
      clear hl_60
      replace hB := hB.ext K_58
      replace hbt := hbt.ext K_58
      replace ho_38 := ho_38.ext K_58
      replace ho_39 := ho_39.ext K_58
      replace hc_53 := hc_53.ext K_58
      replace K0 := K0.ext K_58
      refine RL.val (x_assignI rfl) ?_
      refine RL.st rfl <| St1.store (v := .agg #[.string ((y).key), .int .i64 ((y).req), .int .i64 ((y).since)]) ty97 rfl rfl rfl (by simp [Value.cells, Value.oneCell']) hb_59 (by simp) ?_
      intro w_66 hb_59_ K_67
      have hb_59' : Blk w_66 b_56 [.string ((y).key), .int .i64 ((y).req), .int .i64 ((y).since)] 97 := hb_59_
      clear hb_59_
      replace hB := hB.keep K_67 (by simp only [one]; omega)
      replace hbt := hbt.keep K_67 (by simp only [one]; omega)
      replace ho_38 := ho_38.keepO K_67 (fun q_ hq_ eq_ => pr_64 (by simp only [one] at eq_; rw [← eq_]; exact hq_))
      replace ho_39 := ho_39.keepO K_67 (fun q_ hq_ eq_ => pr_65 (by simp only [one] at eq_; rw [← eq_]; exact hq_))
      replace hc_53 := hc_53.keep K_67 (fun e => pr_64 (by simp only [one] at e; rw [← e]; exact (own_sub _) _ ha_52))
      replace K0 := K0.trans K_67 (fun x hlt hx => absurd hlt (by simp only [one] at hx; omega))
      replace hb_59 := hb_59'
      clear hb_59'
      refine RL.nil ?_
      have hy0 := mixS_get hy (by omega)
      refine Run.seq ?_
      refine Run.seq ?_
      refine Run.region ?_
      refine RL.val (x_fld (o' := 2) Try.underlying97 rfl ty3 rfl rfl rfl) ?_
      refine RL.val (x_ld (v := .int .i64 ((y).since)) ty3 rfl rfl (hb_59.cl.field (i := 2) rfl)) ?_
      refine RL.val (x_geI rfl rfl) ?_
      refine RL.val (x_moveB rfl) ?_
      refine RL.gval (wantedT rfl rfl rfl rfl) (fun hg => (x_moveP rfl)) ?_
      refine RL.gval (wantedT rfl rfl rfl rfl) (fun hg => (x_nilCheck (gvr hg))) ?_
      refine RL.gval (wantedT rfl rfl rfl rfl) (fun hg => (x_fld (o' := 2) Try.underlying89 rfl ty87 rfl (gvr hg) rfl)) ?_
      refine RL.gval (wantedT rfl rfl rfl rfl) (fun hg => (x_ld (v := .slice (a) ((mixS now req l q).length) (c)) ty87 (gvr hg) rfl (hbt.cl.field (i := 2) rfl))) ?_
      refine RL.gval (wantedT rfl rfl rfl rfl) (fun hg => (x_moveI rfl)) ?_
      obtain ⟨b_68, o_69, x_72, hx_73, ha_70, hc_71⟩ := ho_38.sl.el (i := q) (by first | omega | (rw [mixA_len (by omega)]; omega) | (rw [mixS_len (by omega)]; omega) | (simp only [List.length_set]; rw [mixS_len (by omega)]; omega))
      obtain rfl : y = x_72 := Option.some.inj (hy.symm.trans hx_73)
      refine RL.gval (wantedT rfl rfl rfl rfl) (fun hg => (x_idxN Try.underlying87 ty97 (gvr hg) (gvr hg) ha_70 (by first | omega | (rw [mixA_len (by omega)]; omega) | (rw [mixS_len (by omega)]; omega) | (simp only [List.length_set]; rw [mixS_len (by omega)]; omega)))) ?_
      refine RL.gval (wantedT rfl rfl rfl rfl) (fun hg => (x_fld (o' := o_69 + q * 3 + 2) Try.underlying97 rfl ty3 rfl (gvr hg) rfl)) ?_
      refine RL.gval (wantedT rfl rfl rfl rfl) (fun hg => (x_ld ty3 (gvr hg) rfl (hc_71.field (i := 2) rfl))) ?_
      refine RL.gval (wantedT rfl rfl rfl rfl) (fun hg => (x_geI (gvr hg) rfl)) ?_
      refine RL.val (x_and rfl rfl rfl) ?_
      refine RL.val (x_moveB rfl) ?_
      refine RL.gval (wantedF rfl rfl rfl rfl) (fun hg => (x_moveI rfl)) ?_
      refine RL.gval (wantedF rfl rfl rfl rfl) (fun hg => (x_geI (gvr hg) rfl)) ?_
      refine RL.val (x_or rfl rfl rfl) ?_
      refine RL.nil ?_
      refine Run.cond rfl (fun hc74 => ?_) (fun hc74 => ?_)
      · try simp only [br] at hc74
        refine Run.exit rfl ?_
        refine Run.region ?_
        refine RL.val (x_add rfl rfl (by omega) (by omega)) ?_
        refine RL.val (x_moveI rfl) ?_
        refine RL.nil ?_
        have e0 := sdS_skip (r := req) hy0 (by omega)
        have e1 := mixS_same (r := req) hy0 (by rw [e0])
        have e2 : (sdS now req l (q + 1)).c = (sdS now req l q).c := by rw [e0]
        have e3 : (sdS now req l (q + 1)).r = (sdS now req l q).r := by rw [e0]
        have e4 : (sdS now req l (q + 1)).T = (sdS now req l q).T := by rw [e0]
        refine ih2 (q + 1) _ _ ?_ (by omega)
        rw [e1, e2, e3, e4]
        refine ⟨_, _, ⟨rfl, rfl, rfl, rfl, rfl, rfl, rfl, trivial⟩, K0, hB, hbt, ho_38, ho_39, pr_40, pr_41, pr_42, pr_43, pr_44, pr_45, pr_46, pr_47, ?_⟩
        · omega
      · try simp only [br] at hc74
        refine Run.skip ?_
        refine Run.seq ?_
        refine Run.region ?_
        refine RL.val (x_moveI rfl) ?_
        refine RL.val (x_add rfl rfl (by omega) (by omega)) ?_
        refine RL.val (x_assignI rfl) ?_
        refine RL.nil ?_
        refine Run.seq ?_
        refine Run.region ?_
        refine RL.val (x_moveP rfl) ?_
        refine RL.val (x_nilCheck rfl) ?_
        refine RL.val (x_fld (o' := 3) Try.underlying60 rfl ty3 rfl rfl rfl) ?_
        refine RL.val (x_ld (v := .int .i64 ((sdS now req l q).r)) ty3 rfl rfl (hB.cl.field (i := 3) rfl)) ?_
        refine RL.val (x_add rfl rfl (by omega) (by omega)) ?_
        refine RL.val (x_nilCheck rfl) ?_
        refine RL.val (x_fld (o' := 3) Try.underlying60 rfl ty3 rfl rfl rfl) ?_
        refine RL.st rfl <| St1.store (v := .int .i64 (((sdS now req l q).r) + 1)) ty3 rfl rfl rfl (by simp [Value.cells, Value.oneCell']) hB (by simp) ?_
        intro w_74 hB_ K_75
        have hB' : Blk w_74 s [.bool (true), .int .i64 (self), .int .i64 (now), .int .i64 (((sdS now req l q).r) + 1), .slice (al) (n) (cl)] 60 := hB_
        clear hB_
        replace hbt := hbt.keep K_75 (by simp only [one]; omega)
        replace ho_38 := ho_38.keepO K_75 (fun q_ hq_ eq_ => pr_40 (by simp only [one] at eq_; rw [← eq_]; exact hq_))
        replace ho_39 := ho_39.keepO K_75 (fun q_ hq_ eq_ => pr_44 (by simp only [one] at eq_; rw [← eq_]; exact hq_))
        replace hb_59 := hb_59.keep K_75 (by simp only [one]; omega)
        replace K0 := K0.trans K_75 (fun x _ hx => by simp only [one] at hx; subst hx; exact (Or.inl rfl))
        replace hB := hB'
        clear hB'
        refine RL.nil ?_
        refine Run.seq ?_
        obtain ⟨b_78, o_79, x_82, hx_83, ha_80, hc_81⟩ := ho_38.sl.el (i := q) (by first | omega | (rw [mixA_len (by omega)]; omega) | (rw [mixS_len (by omega)]; omega) | (simp only [List.length_set]; rw [mixS_len (by omega)]; omega))
        obtain rfl : y = x_82 := Option.some.inj (hy.symm.trans hx_83)
        refine Run.drawT [20] (m := 24) (by kernel_rfl) rfl ?_
        intro w_76 K_77
        replace hB := hB.ext K_77
        replace hbt := hbt.ext K_77
        replace ho_38 := ho_38.ext K_77
        replace ho_39 := ho_39.ext K_77
        replace hb_59 := hb_59.ext K_77
        replace hc_81 := hc_81.ext K_77
        replace K0 := K0.ext K_77
        refine ⟨fun w' => Blk w' s [.bool (true), .int .i64 (self), .int .i64 (now), .int .i64 (((sdS now req l q).r) + 1), .slice (al) (n) (cl)] 60 ∧ Blk w' b [.int .i64 (part), .int .i64 (to), .slice (a) ((mixS now req l q).length) (c)] 89 ∧ Cl w' b_78 (o_79 + q * 3) (cellsOf y) ∧ True, ?_⟩
        refine RT.takeP (v := .pointer (some ⟨b, 0, none⟩)) 0 rfl (by kernel_rfl) (.inr ⟨hB, hbt, hc_81, trivial⟩) (fun _ => (x_moveP rfl)) ?_
        refine RT.takeP (v := .pointer (some ⟨b, 0, none⟩)) 1 rfl (by kernel_rfl) (.inr ⟨hB, hbt, hc_81, trivial⟩) (fun _ => (x_nilCheck rfl)) ?_
        refine RT.takeP (v := .pointer (some ⟨b, 2, none⟩)) 2 rfl (by kernel_rfl) (.inr ⟨hB, hbt, hc_81, trivial⟩) (fun _ => (x_fld (o' := 2) Try.underlying89 rfl ty87 rfl rfl rfl)) ?_
        refine RT.take (v := .slice (a) ((mixS now req l q).length) (c)) 3 rfl (by kernel_rfl) ⟨hB, hbt, hc_81, trivial⟩ (by rintro _ ⟨hB, hbt, hc_81, -⟩; exact (x_ld (v := .slice (a) ((mixS now req l q).length) (c)) ty87 rfl rfl (hbt.cl.field (i := 2) rfl))) ?_
        refine RT.takeP (v := .int .i64 (((q : Nat) : Int))) 4 rfl (by kernel_rfl) (.inr ⟨hB, hbt, hc_81, trivial⟩) (fun _ => (x_moveI rfl)) ?_
        refine RT.takeP (v := .pointer (some ⟨b, 0, none⟩)) 5 rfl (by kernel_rfl) (.inr ⟨hB, hbt, hc_81, trivial⟩) (fun _ => (x_moveP rfl)) ?_
        refine RT.takeP (v := .pointer (some ⟨b, 0, none⟩)) 6 rfl (by kernel_rfl) (.inr ⟨hB, hbt, hc_81, trivial⟩) (fun _ => (x_nilCheck rfl)) ?_
        refine RT.takeP (v := .pointer (some ⟨b, 2, none⟩)) 7 rfl (by kernel_rfl) (.inr ⟨hB, hbt, hc_81, trivial⟩) (fun _ => (x_fld (o' := 2) Try.underlying89 rfl ty87 rfl rfl rfl)) ?_
        refine RT.take (v := .slice (a) ((mixS now req l q).length) (c)) 8 rfl (by kernel_rfl) ⟨hB, hbt, hc_81, trivial⟩ (by rintro _ ⟨hB, hbt, hc_81, -⟩; exact (x_ld (v := .slice (a) ((mixS now req l q).length) (c)) ty87 rfl rfl (hbt.cl.field (i := 2) rfl))) ?_
        refine RT.takeP (v := .int .i64 (((q : Nat) : Int))) 9 rfl (by kernel_rfl) (.inr ⟨hB, hbt, hc_81, trivial⟩) (fun _ => (x_moveI rfl)) ?_
        refine RT.takeP (v := .pointer (some ⟨s, 0, none⟩)) 10 rfl (by kernel_rfl) (.inr ⟨hB, hbt, hc_81, trivial⟩) (fun _ => (x_moveP rfl)) ?_
        refine RT.takeP (v := .pointer (some ⟨s, 0, none⟩)) 11 rfl (by kernel_rfl) (.inr ⟨hB, hbt, hc_81, trivial⟩) (fun _ => (x_nilCheck rfl)) ?_
        refine RT.takeP (v := .pointer (some ⟨s, 2, none⟩)) 12 rfl (by kernel_rfl) (.inr ⟨hB, hbt, hc_81, trivial⟩) (fun _ => (x_fld (o' := 2) Try.underlying60 rfl ty3 rfl rfl rfl)) ?_
        refine RT.take (v := .int .i64 (now)) 13 rfl (by kernel_rfl) ⟨hB, hbt, hc_81, trivial⟩ (by rintro _ ⟨hB, hbt, hc_81, -⟩; exact (x_ld (v := .int .i64 (now)) ty3 rfl rfl (hB.cl.field (i := 2) rfl))) ?_
        refine RT.takeP (v := .pointer (some ⟨s, 0, none⟩)) 14 rfl (by kernel_rfl) (.inr ⟨hB, hbt, hc_81, trivial⟩) (fun _ => (x_moveP rfl)) ?_
        refine RT.takeP (v := .pointer (some ⟨s, 0, none⟩)) 15 rfl (by kernel_rfl) (.inr ⟨hB, hbt, hc_81, trivial⟩) (fun _ => (x_nilCheck rfl)) ?_
        refine RT.takeP (v := .pointer (some ⟨s, 3, none⟩)) 16 rfl (by kernel_rfl) (.inr ⟨hB, hbt, hc_81, trivial⟩) (fun _ => (x_fld (o' := 3) Try.underlying60 rfl ty3 rfl rfl rfl)) ?_
        refine RT.take (v := .int .i64 (((sdS now req l q).r) + 1)) 17 rfl (by kernel_rfl) ⟨hB, hbt, hc_81, trivial⟩ (by rintro _ ⟨hB, hbt, hc_81, -⟩; exact (x_ld (v := .int .i64 (((sdS now req l q).r) + 1)) ty3 rfl rfl (hB.cl.field (i := 3) rfl))) ?_
        refine RT.takeP (v := .pointer (some ⟨b_78, o_79 + q * 3, none⟩)) 18 rfl (by kernel_rfl) (.inr ⟨hB, hbt, hc_81, trivial⟩) (fun _ => (x_idxN Try.underlying87 ty97 rfl rfl ha_80 (by first | omega | (rw [mixA_len (by omega)]; omega) | (rw [mixS_len (by omega)]; omega) | (simp only [List.length_set]; rw [mixS_len (by omega)]; omega)))) ?_
        refine RT.takeP (v := .pointer (some ⟨b_78, o_79 + q * 3 + 2, none⟩)) 19 rfl (by kernel_rfl) (.inr ⟨hB, hbt, hc_81, trivial⟩) (fun _ => (x_fld (o' := o_79 + q * 3 + 2) Try.underlying97 rfl ty3 rfl rfl rfl)) ?_
        refine RT.st 20 rfl (by kernel_rfl) rfl <| St1.storeEl (v := .int .i64 (now)) (off := 2) (i := q) (⟨y.key, y.req, now⟩ : Item) ty3 rfl rfl rfl (by simp [Value.cells, Value.oneCell']) ho_38 ha_80 hx_83 rfl (by decide) rfl ?_
        intro w_84 ho_86 K_85
        clear hc_81
        replace hB := hB.keep K_85 pr_40
        replace hbt := hbt.keep K_85 pr_41
        replace ho_39 := ho_39.keepO K_85 (fun q_ h1 h2 => pr_42 q_ h2 h1)
        replace hb_59 := hb_59.keep K_85 pr_64
        replace K0 := K0.trans K_85 (fun x hlt hx => pr_43 x hx hlt)
        replace ho_38 := ho_86
        clear ho_86
        refine ⟨.inl (by kernel_rfl), ?_⟩
        obtain ⟨b_87, o_88, x_91, hx_92, ha_89, hc_90⟩ := ho_38.sl.el (i := q) (by first | omega | (rw [mixA_len (by omega)]; omega) | (rw [mixS_len (by omega)]; omega) | (simp only [List.length_set]; rw [mixS_len (by omega)]; omega))
        obtain rfl : (⟨y.key, y.req, now⟩ : Item) = x_91 := Option.some.inj ((get_set_self hx_83).symm.trans hx_92)
        refine RT.takeP (v := .pointer (some ⟨b_87, o_88 + q * 3, none⟩)) 21 rfl (by kernel_rfl) (.inl (by kernel_rfl)) (fun _ => (x_idxN Try.underlying87 ty97 rfl rfl ha_89 (by first | omega | (rw [mixA_len (by omega)]; omega) | (rw [mixS_len (by omega)]; omega) | (simp only [List.length_set]; rw [mixS_len (by omega)]; omega)))) ?_
        refine RT.takeP (v := .pointer (some ⟨b_87, o_88 + q * 3 + 1, none⟩)) 22 rfl (by kernel_rfl) (.inl (by kernel_rfl)) (fun _ => (x_fld (o' := o_88 + q * 3 + 1) Try.underlying97 rfl ty3 rfl rfl rfl)) ?_
        refine RT.st 23 rfl (by kernel_rfl) rfl <| St1.storeEl (v := .int .i64 (((sdS now req l q).r) + 1)) (off := 1) (i := q) (⟨y.key, ((sdS now req l q).r) + 1, now⟩ : Item) ty3 rfl rfl rfl (by simp [Value.cells, Value.oneCell']) ho_38 ha_89 hx_92 rfl (by decide) rfl ?_
        intro w_93 ho_95 K_94
        clear hc_90
        replace hB := hB.keep K_94 pr_40
        replace hbt := hbt.keep K_94 pr_41
        replace ho_39 := ho_39.keepO K_94 (fun q_ h1 h2 => pr_42 q_ h2 h1)
        replace hb_59 := hb_59.keep K_94 pr_64
        replace K0 := K0.trans K_94 (fun x hlt hx => pr_43 x hx hlt)
        replace ho_38 := ho_95
        clear ho_95
        refine ⟨.inl (by kernel_rfl), ?_⟩
        refine RT.done (by kernel_rfl) ?_
        have hTm : ((sdS now req l q).T.map (msgH self to part)).length ≤ 4 := by rw [List.length_map]; exact hT3
        refine Run.drawT [] (m := 23) (by kernel_rfl) rfl ?_
        intro w_96 K_97
        replace hB := hB.ext K_97
        replace hbt := hbt.ext K_97
        replace ho_38 := ho_38.ext K_97
        replace ho_39 := ho_39.ext K_97
        replace hb_59 := hb_59.ext K_97
        replace K0 := K0.ext K_97
        refine ⟨fun w' => Blk w' s [.bool (true), .int .i64 (self), .int .i64 (now), .int .i64 (((sdS now req l q).r) + 1), .slice (al) (n) (cl)] 60 ∧ Blk w' b [.int .i64 (part), .int .i64 (to), .slice (a) ((mixS now req l q).length) (c)] 89 ∧ Blk w' b_56 [.string ((y).key), .int .i64 ((y).req), .int .i64 ((y).since)] 97 ∧ True, ?_⟩
        refine RT.takeP (v := .slice (am) (((sdS now req l q).T.map (msgH self to part)).length) (cm)) 0 rfl (by kernel_rfl) (.inr ⟨hB, hbt, hb_59, trivial⟩) (fun _ => (x_moveSl rfl)) ?_
        refine RT.takeP (v := .pointer (some ⟨s, 0, none⟩)) 1 rfl (by kernel_rfl) (.inr ⟨hB, hbt, hb_59, trivial⟩) (fun _ => (x_moveP rfl)) ?_
        refine RT.takeP (v := .pointer (some ⟨s, 0, none⟩)) 2 rfl (by kernel_rfl) (.inr ⟨hB, hbt, hb_59, trivial⟩) (fun _ => (x_nilCheck rfl)) ?_
        refine RT.takeP (v := .pointer (some ⟨s, 1, none⟩)) 3 rfl (by kernel_rfl) (.inr ⟨hB, hbt, hb_59, trivial⟩) (fun _ => (x_fld (o' := 1) Try.underlying60 rfl ty3 rfl rfl rfl)) ?_
        refine RT.take (v := .int .i64 (self)) 4 rfl (by kernel_rfl) ⟨hB, hbt, hb_59, trivial⟩ (by rintro _ ⟨hB, hbt, hb_59, -⟩; exact (x_ld (v := .int .i64 (self)) ty3 rfl rfl (hB.cl.field (i := 1) rfl))) ?_
        refine RT.takeP (v := .pointer (some ⟨b, 0, none⟩)) 5 rfl (by kernel_rfl) (.inr ⟨hB, hbt, hb_59, trivial⟩) (fun _ => (x_moveP rfl)) ?_
        refine RT.takeP (v := .pointer (some ⟨b, 0, none⟩)) 6 rfl (by kernel_rfl) (.inr ⟨hB, hbt, hb_59, trivial⟩) (fun _ => (x_nilCheck rfl)) ?_
        refine RT.takeP (v := .pointer (some ⟨b, 1, none⟩)) 7 rfl (by kernel_rfl) (.inr ⟨hB, hbt, hb_59, trivial⟩) (fun _ => (x_fld (o' := 1) Try.underlying89 rfl ty3 rfl rfl rfl)) ?_
        refine RT.take (v := .int .i64 (to)) 8 rfl (by kernel_rfl) ⟨hB, hbt, hb_59, trivial⟩ (by rintro _ ⟨hB, hbt, hb_59, -⟩; exact (x_ld (v := .int .i64 (to)) ty3 rfl rfl (hbt.cl.field (i := 1) rfl))) ?_
        refine RT.takeP (v := .pointer (some ⟨s, 0, none⟩)) 9 rfl (by kernel_rfl) (.inr ⟨hB, hbt, hb_59, trivial⟩) (fun _ => (x_moveP rfl)) ?_
        refine RT.takeP (v := .pointer (some ⟨s, 0, none⟩)) 10 rfl (by kernel_rfl) (.inr ⟨hB, hbt, hb_59, trivial⟩) (fun _ => (x_nilCheck rfl)) ?_
        refine RT.takeP (v := .pointer (some ⟨s, 3, none⟩)) 11 rfl (by kernel_rfl) (.inr ⟨hB, hbt, hb_59, trivial⟩) (fun _ => (x_fld (o' := 3) Try.underlying60 rfl ty3 rfl rfl rfl)) ?_
        refine RT.take (v := .int .i64 (((sdS now req l q).r) + 1)) 12 rfl (by kernel_rfl) ⟨hB, hbt, hb_59, trivial⟩ (by rintro _ ⟨hB, hbt, hb_59, -⟩; exact (x_ld (v := .int .i64 (((sdS now req l q).r) + 1)) ty3 rfl rfl (hB.cl.field (i := 3) rfl))) ?_
        refine RT.takeP (v := .pointer (some ⟨b_56, 0, none⟩)) 13 rfl (by kernel_rfl) (.inr ⟨hB, hbt, hb_59, trivial⟩) (fun _ => (x_fld (o' := 0) Try.underlying97 rfl ty9 rfl rfl rfl)) ?_
        refine RT.take (v := .string ((y).key)) 14 rfl (by kernel_rfl) ⟨hB, hbt, hb_59, trivial⟩ (by rintro _ ⟨hB, hbt, hb_59, -⟩; exact (x_ld (v := .string ((y).key)) ty9 rfl rfl (hb_59.cl.field (i := 0) rfl))) ?_
        refine RT.takeP (v := .pointer (some ⟨b, 0, none⟩)) 15 rfl (by kernel_rfl) (.inr ⟨hB, hbt, hb_59, trivial⟩) (fun _ => (x_moveP rfl)) ?_
        refine RT.takeP (v := .pointer (some ⟨b, 0, none⟩)) 16 rfl (by kernel_rfl) (.inr ⟨hB, hbt, hb_59, trivial⟩) (fun _ => (x_nilCheck rfl)) ?_
        refine RT.takeP (v := .pointer (some ⟨b, 0, none⟩)) 17 rfl (by kernel_rfl) (.inr ⟨hB, hbt, hb_59, trivial⟩) (fun _ => (x_fld (o' := 0) Try.underlying89 rfl ty3 rfl rfl rfl)) ?_
        refine RT.take (v := .int .i64 (part)) 18 rfl (by kernel_rfl) ⟨hB, hbt, hb_59, trivial⟩ (by rintro _ ⟨hB, hbt, hb_59, -⟩; exact (x_ld (v := .int .i64 (part)) ty3 rfl rfl (hbt.cl.field (i := 0) rfl))) ?_
        refine RT.takeP (v := .agg #[.int .i64 (10), .int .i64 (self), .int .i64 (to), .int .i64 (((sdS now req l q).r) + 1), .string ((y).key), .slice (none) (0) (0), .slice (none) (0) (0), .slice (none) (0) (0), .int .i64 (0), .int .i64 (part), .int .i64 (0), .int .i64 (0), .int .i64 (0), .int .i64 (0), .slice (none) (0) (0), .slice (none) (0) (0), .slice (none) (0) (0)]) 19 rfl (by kernel_rfl) (.inr ⟨hB, hbt, hb_59, trivial⟩) (fun _ => (x_build (cells := #[.int .i64 (10), .int .i64 (self), .int .i64 (to), .int .i64 (((sdS now req l q).r) + 1), .string ((y).key), .slice (none) (0) (0), .slice (none) (0) (0), .slice (none) (0) (0), .int .i64 (0), .int .i64 (part), .int .i64 (0), .int .i64 (0), .int .i64 (0), .int .i64 (0), .slice (none) (0) (0), .slice (none) (0) (0), .slice (none) (0) (0)]) (by kernel_rfl))) ?_
        refine RT.st 20 rfl (by kernel_rfl) rfl <| St1.buildSlice ([(⟨10, self, to, ((sdS now req l q).r) + 1, (y).key, part⟩ : HMsg)] : List HMsg) Try.underlying31 ty46 rfl rfl (by first | decide | (simp [Enc.size])) ?_
        intro b_98 w_99 hl_102 ho_101 K_100
        have pr_103 : ¬ own (some ⟨b_98, 0, none⟩) s := notNew (ge_new hl_102) hB.lt
        have pr_104 : ¬ own (some ⟨b_98, 0, none⟩) b := notNew (ge_new hl_102) hbt.lt
        have pr_105 : ∀ q_, own (some ⟨b_98, 0, none⟩) q_ → ¬ own a q_ := apartNew (ge_new hl_102) ho_38.own_lt
        have pr_106 : ∀ q_, own (some ⟨b_98, 0, none⟩) q_ → ¬ own am q_ := apartNew (ge_new hl_102) ho_39.own_lt
        have pr_107 : ¬ own (some ⟨b_98, 0, none⟩) b_56 := notNew (ge_new hl_102) hb_59.lt
        have pg_108 : ∀ q_, own (some ⟨b_98, 0, none⟩) q_ → q_ < w.heap.size → (tellS s a) q_ := fun q_ h hlt => absurd (Nat.le_trans K0.size ((ge_new hl_102) q_ h)) (by omega)
        have pw_109 : ∀ q_, own (some ⟨b_98, 0, none⟩) q_ → w.heap.size ≤ q_ := fun q_ h => Nat.le_trans K0.size ((ge_new hl_102) q_ h)
        clear hl_102
        replace hB := hB.ext K_100
        replace hbt := hbt.ext K_100
        replace ho_38 := ho_38.ext K_100
        replace ho_39 := ho_39.ext K_100
        replace hb_59 := hb_59.ext K_100
        replace K0 := K0.ext K_100
        refine ⟨.inr ⟨hB, hbt, hb_59, trivial⟩, ?_⟩
        refine RT.st 21 rfl (by kernel_rfl) rfl <| St1.append (xs := (sdS now req l q).T.map (msgH self to part)) (ys := ([(⟨10, self, to, ((sdS now req l q).r) + 1, (y).key, part⟩ : HMsg)] : List HMsg)) Try.underlying31 ty46 rfl rfl rfl ho_39 ho_101.sl (by first | omega | (simp only [lr]; omega)) (by decide) ?_
        intro a_110 c_111 w_112 ho_113 K_114 hm_115 hrm_116
        have pr_117 : ¬ own a_110 s := hm_115.not pr_44 hB.lt
        have pr_118 : ¬ own a_110 b := hm_115.not pr_45 hbt.lt
        have pr_119 : ∀ q_, own a_110 q_ → ¬ own a q_ := hm_115.apart (fun q_ h1 h2 => pr_42 q_ h2 h1) ho_38.own_lt
        have pr_120 : ¬ own a_110 b_56 := hm_115.not pr_65 hb_59.lt
        have pr_121 : ∀ q_, own a_110 q_ → ¬ own (some ⟨b_98, 0, none⟩) q_ := hm_115.apart (fun q_ h1 h2 => pr_106 q_ h2 h1) ho_101.own_lt
        have pg_122 : ∀ q_, own a_110 q_ → q_ < w.heap.size → (tellS s a) q_ := hm_115.inS pr_46 K0.size
        have pw_123 : ∀ q_, own a_110 q_ → w.heap.size ≤ q_ := hm_115.ge pr_47 K0.size
        replace hB := hB.keep K_114 pr_44
        replace hbt := hbt.keep K_114 pr_45
        replace ho_38 := ho_38.keepO K_114 pr_42
        replace hb_59 := hb_59.keep K_114 pr_65
        replace ho_101 := ho_101.keepO K_114 pr_106
        replace K0 := K0.trans K_114 (fun x hlt hx => pr_46 x hx hlt)
        clear hm_115
        clear hrm_116
        refine ⟨.inr ⟨hB, hbt, hb_59, trivial⟩, ?_⟩
        refine RT.takeP (v := .slice (a_110) ((((sdS now req l q).T.map (msgH self to part)) ++ ([(⟨10, self, to, ((sdS now req l q).r) + 1, (y).key, part⟩ : HMsg)] : List HMsg)).length) (c_111)) 22 rfl (by kernel_rfl) (.inr ⟨hB, hbt, hb_59, trivial⟩) (fun _ => (x_assignSl rfl)) ?_
        refine RT.done (by kernel_rfl) ?_
        refine Run.inBlock ?_
        refine Run.region ?_
        refine RL.val (x_add rfl rfl (by omega) (by omega)) ?_
        refine RL.val (x_moveI rfl) ?_
        refine RL.nil ?_
        have e0 := sdS_send (r := req) hy0 (by omega)
        have e1 := (mixS_set (r := req) (y := ⟨y.key, (sdS now req l q).r + 1, now⟩) hy0 (by rw [e0])).trans (List.set_set (a := (⟨y.key, y.req, now⟩ : Item))).symm
        have e2 : (sdS now req l (q + 1)).c = (sdS now req l q).c + 1 := by rw [e0]
        have e3 : (sdS now req l (q + 1)).r = (sdS now req l q).r + 1 := by rw [e0]
        have e4 : (sdS now req l (q + 1)).T.map (msgH self to part) = (sdS now req l q).T.map (msgH self to part) ++ [msgH self to part ⟨y.key, (sdS now req l q).r + 1, now⟩] := by rw [e0, List.map_append]; rfl
        refine ih2 (q + 1) _ _ ?_ (by omega)
        rw [e1, e2, e3, e4, List.length_set, List.length_set]
        refine ⟨_, _, ⟨rfl, rfl, rfl, rfl, rfl, rfl, rfl, trivial⟩, K0, hB, hbt, ho_38, ho_113, pr_40, pr_41, (fun q_ h1 h2 => pr_119 q_ h2 h1), pr_43, pr_117, pr_118, pg_122, pw_123, ?_⟩
        · omega
    · try simp only [br] at hc53
      refine Run.exit rfl ?_
      refine Run.seq ?_
      refine Run.region ?_
      refine RL.val (x_moveSl rfl) ?_
      refine RL.val (x_assignSl rfl) ?_
      refine RL.nil ?_
      refine Run.ret1 (v := .slice (am) (((sdS now req l q).T.map (msgH self to part)).length) (cm)) Try.func113 rfl rfl ?_
      have hql : q = l.length := by omega
      rw [sdS_end hql] at hB ho_39 ⊢
      rw [mixS_end hql] at ho_38
      exact ⟨_, rfl, am, cm, rfl, ho_39, pr_47, hB, ho_38, K0⟩


/-! ### telling of transfers, one behind the other -/
def withL (t : TrS Item) (l : List Item) : TrS Item := ⟨t.blk, t.part, t.to, t.a, t.cap, l⟩
structure TrsM (w : World) (ts us : List (TrS Item)) : Prop where
  at_ : TrsAt 89 97 w us
  same : ∀ q, trsS us q ↔ trsS ts q
  ptr : us.map TrS.ptr = ts.map TrS.ptr
def eachS (s : Nat) (ts : List (TrS Item)) : Nat → Prop := fun q => q = s ∨ trsS ts q
structure EachAt (w : World) (s : Nat) (al : Option Addr) (n cl : Nat) (me now req : Int) (ts us : List (TrS Item)) : Prop where
  blk : Blk w s [.bool true, .int .i64 me, .int .i64 now, .int .i64 req, .slice al n cl] 60
  trs : TrsM w ts us
  apart : ¬ trsS ts s
section
variable {w w' : World} {S : Nat → Prop} {s n cl i : Nat} {al : Option Addr} {self now req : Int} {ts us l1 l2 : List (TrS Item)} {t : TrS Item}
theorem EachAt.own_lt (h : EachAt w s al n cl self now req ts us) : ∀ q, eachS s ts q → q < w.heap.size := by
  rintro q (rfl | hq)
  · exact h.blk.lt
  · exact h.trs.at_.own_lt q ((h.trs.same q).2 hq)
theorem EachAt.keepO (h : EachAt w s al n cl self now req ts us) (k : Keeps S w w') (hn : ∀ q, eachS s ts q → ¬ S q) : EachAt w' s al n cl self now req ts us :=
  ⟨h.blk.keep k (hn _ (.inl rfl)), ⟨h.trs.at_.keepO k (fun q hq => hn q (.inr ((h.trs.same q).1 hq))), h.trs.same, h.trs.ptr⟩, h.apart⟩
theorem EachAt.ext (h : EachAt w s al n cl self now req ts us) (k : Ext w w') : EachAt w' s al n cl self now req ts us := h.keepO k fun _ _ => id
theorem tellE (h : EachAt w s al n cl self now req ts us) (e : us = l1 ++ t :: l2) (hk : LOk now t.left) (h0 : 0 ≤ now ∧ now ≤ 9223372036854775807) (hl : t.left.length ≤ 4294967295) (hr : 0 ≤ req ∧ req ≤ 1099511627776) :
    Calls Try.prog 113 #[.pointer (some ⟨s, 0, none⟩), .pointer (some ⟨t.blk, 0, none⟩)] w (Ret fun v w' => ∃ a' c', v = .slice a' ((tellP now req t.left).T.map (msgH self t.to t.part)).length c' ∧ OwnSl w' 46 a' c' ((tellP now req t.left).T.map (msgH self t.to t.part)) ∧ (∀ q, own a' q → w.heap.size ≤ q) ∧
      EachAt w' s al n cl self now (tellP now req t.left).r ts (l1 ++ withL t (tellP now req t.left).L :: l2) ∧ Keeps (eachS s ts) w w') := by
  obtain ⟨hB, ⟨hA, hs, hp⟩, hap⟩ := h
  obtain ⟨ht, hR, hRt⟩ := hA.openE e
  have hsub : ∀ q, trS t q → trsS ts q := fun q h => (hs q).1 ⟨t, mem_tr e, h⟩
  have hsub2 : ∀ q, trsS (l1 ++ l2) q → trsS ts q := fun q h => (hs q).1 (trs_subR e q h)
  refine (tell_ s al n cl self now req t.blk t.part t.to t.a t.cap t.left w hB ht.blk ht.own ht.apart (fun h => hap (hsub _ (.inr h))) (fun e2 => hap (hsub _ (.inl e2.symm))) hk h0 hl hr).mono fun e' w' he => ?_
  obtain ⟨v, rfl, a', c', rfl, ho, hn, hB', hot, K⟩ := he
  refine ⟨_, rfl, a', c', rfl, ho, hn, ⟨hB', ⟨TrsAt.close ⟨?_, hot, ht.apart⟩ (hR.keepO K ?_) hRt, fun q => ?_, ?_⟩, hap⟩, K.mono fun q _ h => h.elim .inl (fun h => .inr (hsub q (.inr h)))⟩
  · have h2 := ht.blk.keep K (fun h => h.elim (fun e2 => hap (hsub _ (.inl e2.symm))) ht.apart)
    show Blk w' t.blk [.int .i64 t.part, .int .i64 t.to, .slice t.a (tellP now req t.left).L.length t.cap] 89
    rw [tellP_L]; exact h2
  · exact fun q hq h => h.elim (fun e2 => hap (e2 ▸ hsub2 q hq)) (fun h => hRt q hq (.inr h))
  · rw [← hs q, e, trsS_mid, trsS_mid]; exact Iff.rfl
  · rw [← hp, e, List.map_append, List.map_append]; rfl
theorem each_at (hup : us.map TrS.p = (tkI self now req (ts.map TrS.p) i).L ++ (ts.map TrS.p).drop i) (hti : us[i]? = some t) (hi : i ≤ ts.length) : (ts.map TrS.p)[i]? = some t.p := by
  have h1 := p_get hti
  have h2 := (tkI_r (self := self) (now := now) (r := req) (pl := ts.map TrS.p) i (by rw [List.length_map]; exact hi)).2.2.2
  rw [hup, List.getElem?_append_right (by omega), h2, List.getElem?_drop] at h1
  simpa using h1
theorem each_up (hup : us.map TrS.p = (tkI self now req (ts.map TrS.p) i).L ++ (ts.map TrS.p).drop i) (e : us = l1 ++ t :: l2) (hl1 : l1.length = i) (h : (ts.map TrS.p)[i]? = some t.p) :
    (l1 ++ withL t (tellP now (tkI self now req (ts.map TrS.p) i).r t.left).L :: l2).map TrS.p = (tkI self now req (ts.map TrS.p) (i + 1)).L ++ (ts.map TrS.p).drop (i + 1) := by
  have hi := (List.getElem?_eq_some_iff.1 h).1
  have h2 := (tkI_r (self := self) (now := now) (r := req) (pl := ts.map TrS.p) i (by omega)).2.2.2
  rw [e, List.map_append, List.map_cons] at hup
  obtain ⟨h3, h4⟩ := List.append_inj hup (by rw [List.length_map, hl1, h2])
  rw [List.drop_eq_getElem_cons hi] at h4
  rw [List.map_append, List.map_cons, h3, (List.cons.inj h4).2, tkI_succ h, tkStep, List.append_assoc]
  rfl
theorem tick_end (h : i = ts.length) : tkI self now req (ts.map TrS.p) i = tickP self now req (ts.map TrS.p) := by rw [h, tickP, List.length_map]
theorem TrsM.of (h : TrsAt 89 97 w ts) : TrsM w ts ts := ⟨h, fun _ => Iff.rfl, rfl⟩
end

set_option maxRecDepth 100000 in
set_option maxHeartbeats 4000000 in
theorem each_ (s : Nat) (al : Option Addr) (n cl : Nat) (self now req : Int) (ts : List (TrS Item)) (ax : Option Addr) (cx : Nat) (w : World) (hE : EachAt w s al n cl self now req ts ts) (hx : SlOf w ax (ts.map TrS.ptr)) (hxd : ∀ x, ax = some x → ¬ eachS s ts x.block) (hk : SOk self now (ts.map TrS.p)) (hL : ts.length ≤ 1000) (hr : 0 ≤ req ∧ req ≤ 1000000) :
    Calls Try.prog 50 #[.slice (ax) ((ts.map TrS.ptr).length) (cx), .iface 24 (.pointer (some ⟨s, 0, none⟩))] w (Ret (fun v w' => ∃ a' c' us, v = .slice a' (tickP self now req (ts.map TrS.p)).T.length c' ∧ OwnSl w' 46 a' c' (tickP self now req (ts.map TrS.p)).T ∧ (∀ q, own a' q → w.heap.size ≤ q) ∧ EachAt w' s al n cl self now (tickP self now req (ts.map TrS.p)).r ts us ∧ us.map TrS.p = (tickP self now req (ts.map TrS.p)).L ∧ Keeps (eachS s ts) w w')) := by
  have hlp := ptr_len ts
  have hlq : (ts.map TrS.p).length = ts.length := List.length_map ..
  refine calls_run (n := 25) Try.func50 rfl rfl rfl ?_
  refine Run.seq ?_
  refine Run.region ?_
  refine RL.val (x_assignSl rfl) ?_
  refine RL.nil ?_
  refine Run.seq ?_
  refine Run.region ?_
  refine RL.val (x_assignSl rfl) ?_
  refine RL.nil ?_
  refine Run.seq ?_
  refine Run.region ?_
  refine RL.val (x_move (v := .iface 24 (.pointer (some ⟨s, 0, none⟩))) rfl) ?_
  refine RL.val (x_nilCheckI rfl) ?_
  refine RL.val (x_mkFunc (a := [.iface 24 (.pointer (some ⟨s, 0, none⟩))]) (c := []) rfl rfl) ?_
  refine RL.val (x_assign (v := .func (.method "trolley/handoff.tell") #[.iface 24 (.pointer (some ⟨s, 0, none⟩))] #[]) rfl) ?_
  refine RL.nil ?_
  refine Run.seq ?_
  refine Run.seq ?_
  refine Run.region ?_
  refine RL.val (x_moveSl rfl) ?_
  refine RL.val (x_lenSl Try.underlying58 rfl) ?_
  refine RL.val (x_moveI rfl) ?_
  refine RL.nil ?_
  refine Run.block ?_
  refine Run.loop (ι := Nat) (fun i ρ' w' => ∃ am : Option Addr, ∃ cm : Nat, ∃ us : List (TrS Item), Holds ρ' [(5, .slice (am) (((tkI self now req (ts.map TrS.p) i).T).length) (cm)), (6, .func (.method "trolley/handoff.tell") #[.iface 24 (.pointer (some ⟨s, 0, none⟩))] #[]), (12, .slice (ax) ((ts.map TrS.ptr).length) (cx)), (13, .int .i64 ((((ts.map TrS.ptr).length : Nat) : Int))), (14, .int .i64 (((i : Nat) : Int)))] ∧ Keeps (eachS s ts) w w' ∧ (EachAt w' s al n cl self now (tkI self now req (ts.map TrS.p) i).r ts us) ∧ (OwnSl w' 46 am cm ((tkI self now req (ts.map TrS.p) i).T)) ∧ (∀ q_, eachS s ts q_ → ¬ own am q_) ∧ (∀ q_, eachS s ts q_ → q_ < w.heap.size → (eachS s ts) q_) ∧ (∀ q_, own am q_ → q_ < w.heap.size → (eachS s ts) q_) ∧ (∀ q_, own am q_ → w.heap.size ≤ q_) ∧ (i ≤ ts.length) ∧ (us.map TrS.p = (tkI self now req (ts.map TrS.p) i).L ++ (ts.map TrS.p).drop i)) (fun i => ts.length - i) 0 ?_ ?_
  · rw [show (tkI self now req (ts.map TrS.p) 0).T = [] from rfl, show (tkI self now req (ts.map TrS.p) 0).r = req from rfl]
    have ho_9 := OwnSl.nil (α := HMsg) w 46
    refine ⟨_, _, ts, ⟨rfl, rfl, rfl, rfl, rfl, trivial⟩, (Keeps.refl _ w), hE, ho_9, (fun q_ h1 h2 => (fun q_ h1 _ => own_none q_ h1) q_ h2 h1), (fun q_ h_ _ => h_), (fun q_ h1 _ => absurd h1 (own_none q_)), (fun q_ h1 => absurd h1 (own_none q_)), ?_, ?_⟩
    · omega
    · rfl
  clear hE
  rintro i ρ_10 w_1 ⟨am, cm, us, hH_2, K0, hO_3, ho_4, pr_5, pr_6, pr_7, pr_8, hi, hup⟩ ih1
  obtain ⟨ρ₀, rfl⟩ := hH_2.ex
  clear hH_2
  refine Run.seq ?_
  refine Run.region ?_
  refine RL.val (x_ltI rfl rfl) ?_
  refine RL.nil ?_
  refine Run.seq ?_
  refine Run.cond rfl (fun hc15 => ?_) (fun hc15 => ?_)
  · try simp only [br] at hc15
    refine Run.skip ?_
    refine Run.seq ?_
    refine Run.block ?_
    refine Run.seq ?_
    have hul : us.length = ts.length := by have := congrArg List.length hO_3.trs.ptr; simpa using this
    obtain ⟨t, l1, l2, hus, hl1, hti, hpt⟩ := tr_at (ts := us) i (by omega)
    rw [hO_3.trs.ptr] at hpt
    have htp := each_at hup hti (by omega)
    obtain ⟨hk1, hk2⟩ := hk.all t.p (List.mem_of_getElem? htp)
    obtain ⟨hq1, hq2, hq3, hq4⟩ := tkI_r (self := self) (now := now) (r := req) (pl := (ts.map TrS.p)) i (by rw [List.length_map]; omega)
    have htT := (tellP_T (now := now) (r := (tkI self now req (ts.map TrS.p) i).r) (l := t.left)).1
    refine Run.region ?_
    obtain ⟨b_11, o_12, x_15, hx_16, ha_13, hc_14⟩ := hx.el (i := i) (by first | omega | (simp only [List.length_set]; omega))
    have hc_14_lt := hc_14.lt
    replace hc_14 := hc_14.keep K0 (hxd _ ha_13)
    obtain rfl : (some (⟨t.blk, 0, none⟩ : Addr)) = x_15 := Option.some.inj (hpt.symm.trans hx_16)
    refine RL.val (x_idxN Try.underlying58 ty90 rfl rfl ha_13 (by first | omega | (simp only [List.length_set]; omega))) ?_
    refine RL.val (x_ldV (v := .pointer (some ⟨t.blk, 0, none⟩)) (y := (some (⟨t.blk, 0, none⟩ : Addr))) ty90 rfl hc_14 rfl) ?_
    refine RL.val (x_assignP rfl) ?_
    refine RL.nil ?_
    refine Run.region ?_
    refine RL.val (x_moveSl rfl) ?_
    refine RL.val (x_move (v := .func (.method "trolley/handoff.tell") #[.iface 24 (.pointer (some ⟨s, 0, none⟩))] #[]) rfl) ?_
    refine RL.val (x_moveP rfl) ?_
    refine RL.st rfl <| St1.callM (vals := [.pointer (some ⟨s, 0, none⟩), .pointer (some ⟨t.blk, 0, none⟩)]) (fun w => by kernel_rfl) en113 rfl rfl (tellE hO_3 hus hk1 hk.now0 hk2 (by omega)) ?_
    rintro _ w_19 ⟨a_17, c_18, rfl, ho_20, hg_21, hE_22, K_23⟩
    have pr_24 : ∀ q_, own a_17 q_ → ¬ eachS s ts q_ := apartNew hg_21 hO_3.own_lt
    have pr_25 : ∀ q_, own a_17 q_ → ¬ own am q_ := apartNew hg_21 ho_4.own_lt
    have pg_26 : ∀ q_, own a_17 q_ → q_ < w.heap.size → (eachS s ts) q_ := fun q_ h hlt => absurd (Nat.le_trans K0.size (hg_21 q_ h)) (by omega)
    have pw_27 : ∀ q_, own a_17 q_ → w.heap.size ≤ q_ := fun q_ h => Nat.le_trans K0.size (hg_21 q_ h)
    clear hg_21
    replace ho_4 := ho_4.keepO K_23 (fun q_ h1 h2 => pr_5 q_ h2 h1)
    replace K0 := K0.trans K_23 (fun x hlt hx => pr_6 x hx hlt)
    replace hO_3 := hE_22
    clear hE_22
    have hTl : ((tellP now (tkI self now req (ts.map TrS.p) i).r t.left).T.map (msgH self t.to t.part)).length ≤ 4 := by rw [List.length_map]; exact htT
    refine RL.st rfl <| St1.append (xs := (tkI self now req (ts.map TrS.p) i).T) (ys := (tellP now (tkI self now req (ts.map TrS.p) i).r t.left).T.map (msgH self t.to t.part)) Try.underlying31 ty46 rfl rfl rfl ho_4 ho_20.sl (by first | omega | (simp only [lr]; omega)) (by decide) ?_
    intro a_28 c_29 w_30 ho_31 K_32 hm_33 hrm_34
    have pr_35 : ∀ q_, own a_28 q_ → ¬ eachS s ts q_ := hm_33.apart (fun q_ h1 h2 => pr_5 q_ h2 h1) hO_3.own_lt
    have pr_36 : ∀ q_, own a_28 q_ → ¬ own a_17 q_ := hm_33.apart (fun q_ h1 h2 => pr_25 q_ h2 h1) ho_20.own_lt
    have pg_37 : ∀ q_, own a_28 q_ → q_ < w.heap.size → (eachS s ts) q_ := hm_33.inS pr_7 K0.size
    have pw_38 : ∀ q_, own a_28 q_ → w.heap.size ≤ q_ := hm_33.ge pr_8 K0.size
    replace hO_3 := hO_3.keepO K_32 pr_5
    replace ho_20 := ho_20.keepO K_32 pr_25
    replace K0 := K0.trans K_32 (fun x hlt hx => pr_7 x hx hlt)
    clear hm_33
    clear hrm_34
    refine RL.val (x_assignSl rfl) ?_
    refine RL.nil ?_
    refine Run.inBlock ?_
    refine Run.region ?_
    refine RL.val (litI (c := ((i + 1 : Nat) : Int)) (x_add rfl rfl (by omega) (by omega)) rfl) ?_
    refine RL.val (x_moveI rfl) ?_
    refine RL.nil ?_
    have e1 : (tkI self now req (ts.map TrS.p) (i + 1)).T = (tkI self now req (ts.map TrS.p) i).T ++ (tellP now (tkI self now req (ts.map TrS.p) i).r t.left).T.map (msgH self t.to t.part) := by rw [tkI_succ htp]; rfl
    have e2 : (tkI self now req (ts.map TrS.p) (i + 1)).r = (tellP now (tkI self now req (ts.map TrS.p) i).r t.left).r := by rw [tkI_succ htp]; rfl
    refine ih1 (i + 1) _ _ ?_ (by omega)
    rw [e1, e2]
    refine ⟨_, _, (l1 ++ withL t (tellP now (tkI self now req (ts.map TrS.p) i).r t.left).L :: l2), ⟨rfl, rfl, rfl, rfl, rfl, trivial⟩, K0, hO_3, ho_31, (fun q_ h1 h2 => pr_35 q_ h2 h1), pr_6, pg_37, pw_38, ?_, ?_⟩
    · omega
    · exact each_up hup hus hl1 htp
  · try simp only [br] at hc15
    refine Run.exit rfl ?_
    refine Run.seq ?_
    refine Run.region ?_
    refine RL.val (x_moveSl rfl) ?_
    refine RL.val (x_assignSl rfl) ?_
    refine RL.nil ?_
    refine Run.ret1 (v := .slice (am) (((tkI self now req (ts.map TrS.p) i).T).length) (cm)) Try.func50 rfl rfl ?_
    have hil : i = ts.length := by omega
    rw [tick_end hil] at ho_4 hO_3 hup ⊢
    rw [List.drop_of_length_le (by rw [List.length_map]; omega), List.append_nil] at hup
    exact ⟨_, rfl, am, cm, us, rfl, ho_4, pr_8, hO_3, hup, K0⟩

end Go.Proofs.Ythhhkjmlnjbnjaa
