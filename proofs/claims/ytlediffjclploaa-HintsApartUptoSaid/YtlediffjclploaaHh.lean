/-
  HintsApart.
-/
import Derived.Test.YtlediffjclploaaRows
import Derived.Test.YtlediffjclploaaHf
namespace Go.Proofs.Ytlediffjclploaa
attribute [local irreducible] St1 RL RA RT Run

def ofN (n : Int) (k : KeptM) : Bool := decide (k.h.owner = n)
theorem onWay_of {t n : Int} {k : KeptM} (h : ofN n k = false) : onWay t n k = false := by
  simp only [ofN, decide_eq_false_iff_not] at h
  simp [onWay, h]
theorem fold_other {t n m : Int} (hnm : n ≠ m) : ∀ (l : List KeptM) (s : Snd), (∀ h ∈ s.T, h.owner = n) → (l.foldl (sStep t n) s).L.filter (ofN m) = s.L.filter (ofN m) ++ l.filter (ofN m) ∧ (∀ h ∈ (l.foldl (sStep t n) s).T, h.owner = n)
  | [], s, h => ⟨by simp, h⟩
  | k :: l, s, h => by
    rw [List.foldl_cons]
    have hs : (sStep t n s k).L.filter (ofN m) = s.L.filter (ofN m) ++ [k].filter (ofN m) ∧ ∀ h ∈ (sStep t n s k).T, h.owner = n := by
      unfold sStep
      split
      · rename_i hc
        simp only [Bool.and_eq_true, decide_eq_true_eq] at hc
        have hk : ofN m k = false := by simp only [ofN, decide_eq_false_iff_not]; rw [hc.1.1]; exact hnm
        have hk2 : ofN m ⟨k.h, t⟩ = false := hk
        refine ⟨by simp [List.filter_append, List.filter_cons, hk, hk2], ?_⟩
        intro x hx
        simp only [List.mem_append, List.mem_singleton] at hx
        rcases hx with hx | rfl
        · exact h x hx
        · exact hc.1.1
      · exact ⟨by simp only [List.filter_append], h⟩
    obtain ⟨e1, e2⟩ := fold_other hnm l (sStep t n s k) hs.2
    refine ⟨?_, e2⟩
    rw [e1, hs.1, List.append_assoc, ← List.filter_append, List.singleton_append]
theorem fold_same {t n : Int} : ∀ (l : List KeptM) (s s' : Snd), s.L.filter (ofN n) = s'.L → s.T = s'.T → s.c = s'.c →
    (l.foldl (sStep t n) s).L.filter (ofN n) = ((l.filter (ofN n)).foldl (sStep t n) s').L ∧ (l.foldl (sStep t n) s).T = ((l.filter (ofN n)).foldl (sStep t n) s').T
  | [], s, s', h1, h2, _ => ⟨by simpa using h1, by simpa using h2⟩
  | k :: l, s, s', h1, h2, h3 => by
    rw [List.foldl_cons, List.filter_cons]
    by_cases hk : ofN n k = true
    · rw [if_pos hk, List.foldl_cons]
      have hk' : k.h.owner = n := by simpa [ofN] using hk
      refine fold_same l _ _ ?_ ?_ ?_
      all_goals (unfold sStep; rw [h2, h3])
      all_goals split
      · have hk2 : ofN n ⟨k.h, t⟩ = true := hk
        simp [List.filter_append, List.filter_cons, hk2, h1]
      · simp [List.filter_append, List.filter_cons, hk, h1]
      all_goals rfl
    · rw [if_neg hk]
      have hk' : ¬ k.h.owner = n := by simpa [ofN] using hk
      rw [sStep_no (fun h => hk' h.1)]
      exact fold_same l _ _ (by simp [List.filter_append, List.filter_cons, hk, h1]) h2 h3
theorem snd_all (t n : Int) (l : List KeptM) : sndI t n l l.length = l.foldl (sStep t n) ⟨[], [], l.countP (onWay t n)⟩ := by rw [sndI, List.take_length]
theorem due_other (t m : Int) (l : List KeptM) (up : List Int) (hm : m ∉ up) : ∀ i, i ≤ up.length → (dueI t l up i).L.filter (ofN m) = l.filter (ofN m) ∧ ∀ h ∈ (dueI t l up i).T, h.owner ≠ m := by
  intro i
  induction i with
  | zero => intro _; exact ⟨rfl, by simp [dueI]⟩
  | succ i ih =>
    intro hi
    obtain ⟨h1, h2⟩ := ih (by omega)
    have hne : up[i] ≠ m := fun e => hm (e ▸ List.getElem_mem _)
    rw [dueI_step (n := up[i]) (by simp), dStep]
    split
    · exact ⟨h1, h2⟩
    · simp only [snd_all]
      obtain ⟨e1, e2⟩ := fold_other (t := t) hne (dueI t l up i).L ⟨[], [], (dueI t l up i).L.countP (onWay t up[i])⟩ (by simp)
      refine ⟨by rw [e1]; simpa using h1, ?_⟩
      intro h hh
      rcases List.mem_append.1 hh with hh | hh
      · exact h2 h hh
      · rw [e2 h hh]; exact hne
/-- a box and one with hints of others besides -/
def Beside (bl cl : List KeptM) : Prop := cl.filter (ofN 1) = bl
theorem Beside.other {bl cl : List KeptM} (h : Beside bl cl) (t : Int) (up : List Int) (hm : 1 ∉ up) : Beside bl (due t cl up).L ∧ ∀ x ∈ (due t cl up).T, x.owner ≠ 1 := by
  obtain ⟨h1, h2⟩ := due_other t 1 cl up hm up.length (Nat.le_refl _)
  exact ⟨h1.trans h, h2⟩
theorem Beside.same {bl cl : List KeptM} (h : Beside bl cl) (t : Int) : Beside (due t bl [1]).L (due t cl [1]).L ∧ (due t bl [1]).T = (due t cl [1]).T := by
  obtain ⟨a1, a2⟩ := due1 t 1 bl (by omega)
  obtain ⟨b1, b2⟩ := due1 t 1 cl (by omega)
  unfold Beside at h ⊢
  rw [a1, a2, b1, b2, snd_all, snd_all]
  have hc : bl.countP (onWay t 1) = cl.countP (onWay t 1) := by
    rw [← h, List.countP_filter]
    refine List.countP_congr fun k _ => ?_
    constructor
    · intro hk; simp only [Bool.and_eq_true] at hk; exact hk.1
    · intro hk
      simp only [Bool.and_eq_true]
      refine ⟨hk, ?_⟩
      cases ho : ofN 1 k with
      | true => rfl
      | false => rw [onWay_of ho] at hk; cases hk
  obtain ⟨e1, e2⟩ := fold_same (t := t) (n := 1) cl ⟨[], [], cl.countP (onWay t 1)⟩ ⟨[], [], bl.countP (onWay t 1)⟩ rfl rfl hc.symm
  rw [h] at e1 e2
  exact ⟨e1, e2.symm⟩
theorem Beside.count {bl cl : List KeptM} (h : Beside bl cl) : countB bl 1 = countB cl 1 := by
  unfold countB
  rw [if_neg (by omega), if_neg (by omega)]
  unfold cntO
  congr 1
  rw [← h, List.countP_filter]
  refine List.countP_congr fun k _ => ?_
  simp [ofN]
theorem Beside.zero (l : List Hint) (E : List KeptM) (hl : ∀ h ∈ l, h.owner = 1) (hE : E.filter (ofN 1) = []) : Beside (mk16 l) (mk16 l ++ E) := by
  unfold Beside
  rw [List.filter_append, hE, List.append_nil, List.filter_eq_self]
  intro k hk
  simp only [mk16, List.mem_map] at hk
  obtain ⟨h, hh, rfl⟩ := hk
  simp [ofN, hl h hh]
def hX : Hint := ⟨2, ⟨#[120]⟩⟩
def hY : Hint := ⟨3, ⟨#[121]⟩⟩
theorem put_other {l : List KeptM} {h : Hint} (h0 : hE h = 0) (hno : ∀ k ∈ l, k.h ≠ h) (hl : l.length < 256) : putE l h = 0 ∧ putL l h = l ++ [⟨h, -1⟩] := by
  have hn : NoB (isH h) l l.length := fun j x _ hx => by
    have := hno x (mem_of_at hx)
    simp [isH, this]
  exact ⟨putE_new h0 hn (by omega), putL_new h0 hn (by omega)⟩
theorem mk16_ne {l : List Hint} (hl : ∀ h ∈ l, h.owner = 1) {x : Hint} (hx : x.owner ≠ 1) : ∀ k ∈ mk16 l, k.h ≠ x := by
  intro k hk e
  simp only [mk16, List.mem_map] at hk
  obtain ⟨h, hh, rfl⟩ := hk
  simp only at e
  subst e
  exact hx (hl _ hh)
theorem put_X {l : List Hint} (hl : ∀ h ∈ l, h.owner = 1) (hn : l.length < 250) : putE (mk16 l) (⟨2, ⟨#[120]⟩⟩ : Hint) = 0 ∧ putL (mk16 l) (⟨2, ⟨#[120]⟩⟩ : Hint) = mk16 l ++ [⟨⟨2, ⟨#[120]⟩⟩, -1⟩] :=
  put_other (by decide) (mk16_ne hl (by decide)) (by rw [mk16_len]; omega)
theorem put_Y {l : List Hint} (hl : ∀ h ∈ l, h.owner = 1) (hn : l.length < 250) : putE (mk16 l ++ [⟨⟨2, ⟨#[120]⟩⟩, -1⟩]) (⟨3, ⟨#[121]⟩⟩ : Hint) = 0 ∧ putL (mk16 l ++ [⟨⟨2, ⟨#[120]⟩⟩, -1⟩]) (⟨3, ⟨#[121]⟩⟩ : Hint) = mk16 l ++ [⟨⟨2, ⟨#[120]⟩⟩, -1⟩, ⟨⟨3, ⟨#[121]⟩⟩, -1⟩] := by
  have h := put_other (l := mk16 l ++ [⟨⟨2, ⟨#[120]⟩⟩, -1⟩]) (h := ⟨3, ⟨#[121]⟩⟩) (by decide) (by
    intro k hk
    rcases List.mem_append.1 hk with hk | hk
    · exact mk16_ne hl (by decide) k hk
    · simp only [List.mem_singleton] at hk; subst hk; decide) (by rw [List.length_append, mk16_len]; simp; omega)
  rw [List.append_assoc] at h
  exact h
theorem due_T4 (s : Int) (l : List KeptM) (up : List Int) : (due s l up).T.length ≤ 4 * up.length := (dueI_len s l up up.length (Nat.le_refl _)).2.1
theorem due_Ln (s : Int) (l : List KeptM) (up : List Int) : (due s l up).L.length = l.length := (dueI_len s l up up.length (Nat.le_refl _)).1
theorem due_past {s : Int} {l : List KeptM} {up : List Int} (h : Past l s) : Past (due s l up).L s := (dueI_len s l up up.length (Nat.le_refl _)).2.2 h



set_option maxHeartbeats 4000000 in
theorem law_apartL (ak : Option Addr) (keys : List ByteArray) (ck : Nat) (at0 : Option Addr) (times : List Int) (ct0 : Nat) (w : World) (h0 : SlOf w ak keys) (h1 : SlOf w at0 times) (hl0 : keys.length ≤ 1048576) (hl1 : times.length ≤ 1048576) (hkz : ∀ k ∈ keys, k.size ≤ 4294967295) (hlt : (puts 1 keys).length < 250) :
    Calls Try.prog 6 #[.slice (ak) (keys.length) (ck), .slice (at0) (times.length) (ct0)] w (Ret (fun v w' => v = .bool true ∧ Ext w w')) := by
  obtain ⟨hf0, hf1⟩ := fine_puts 1 keys keys.length (Nat.le_refl _)
  have hnr : (0 : Int) ≤ 1 ∧ (1 : Int) < 8 := by omega
  have hown : ∀ h ∈ puts 1 keys, h.owner = 1 := fun h hh => (hf0.1 h hh).1
  have hpl : (puts 1 keys).length ≤ 256 := hf1
  have hml := mk16_len (puts 1 keys)
  refine calls_run (n := 105) Try.func6 rfl rfl rfl ?_
  refine Run.seq ?_
  refine Run.region ?_
  refine RL.val (x_assignB rfl) ?_
  refine RL.nil ?_
  refine Run.seq ?_
  refine Run.region ?_
  refine RL.val (x_moveSl rfl) ?_
  refine RL.st rfl <| St1.call (vals := [.int .i64 (1), .slice (ak) (keys.length) (ck)]) en16 rfl (put16 _ _ _ _ _ h0 (by omega) hnr hkz) ?_
  rintro _ w_6 ⟨b_1, al_2, cl_3, a_4, c_5, rfl, hB_7, ho_8, hg_9, hg_10, pr_11, K_12⟩
  have pg_13 : ∀ q_, boxS b_1 al_2 q_ → w.heap.size ≤ q_ := fun q_ h => Nat.le_trans (Nat.le_refl _) (hg_9 q_ h)
  have pg_14 : ∀ q_, own a_4 q_ → w.heap.size ≤ q_ := fun q_ h => Nat.le_trans (Nat.le_refl _) (hg_10 q_ h)
  clear hg_9 hg_10
  have K0 := (K_12 : Ext w _)
  refine RL.val (x_moveT rfl) ?_
  refine RL.val (x_extract rfl rfl) ?_
  refine RL.val (x_extract rfl rfl) ?_
  refine RL.val (x_assignP rfl) ?_
  refine RL.val (x_assignSl rfl) ?_
  refine RL.nil ?_
  refine Run.seq ?_
  refine Run.region ?_
  refine RL.val (x_moveSl rfl) ?_
  refine RL.st rfl <| St1.call (vals := [.int .i64 (1), .slice (ak) (keys.length) (ck)]) en16 rfl (put16 _ _ _ _ _ (h0.ext K0) (by omega) hnr hkz) ?_
  rintro _ w_20 ⟨b_15, al_16, cl_17, a_18, c_19, rfl, hB_21, ho_22, hg_23, hg_24, pr_25, K_26⟩
  have pr_27 : ∀ q_, boxS b_15 al_16 q_ → ¬ boxS b_1 al_2 q_ := apartNew hg_23 hB_7.own_lt
  have pr_28 : ∀ q_, boxS b_15 al_16 q_ → ¬ own a_4 q_ := apartNew hg_23 ho_8.own_lt
  have pg_29 : ∀ q_, boxS b_15 al_16 q_ → w.heap.size ≤ q_ := fun q_ h => Nat.le_trans K0.size (hg_23 q_ h)
  have pr_30 : ∀ q_, own a_18 q_ → ¬ boxS b_1 al_2 q_ := apartNew hg_24 hB_7.own_lt
  have pr_31 : ∀ q_, own a_18 q_ → ¬ own a_4 q_ := apartNew hg_24 ho_8.own_lt
  have pg_32 : ∀ q_, own a_18 q_ → w.heap.size ≤ q_ := fun q_ h => Nat.le_trans K0.size (hg_24 q_ h)
  clear hg_23 hg_24
  replace hB_7 := hB_7.ext K_26
  replace ho_8 := ho_8.ext K_26
  replace K0 := K0.ext K_26
  refine RL.val (x_moveT rfl) ?_
  refine RL.val (x_extract rfl rfl) ?_
  refine RL.val (x_extract rfl rfl) ?_
  refine RL.val (x_assignP rfl) ?_
  refine RL.val (x_assignSl rfl) ?_
  refine RL.nil ?_
  refine Run.seq ?_
  refine Run.seq ?_
  refine Run.region ?_
  refine RL.val (x_moveP rfl) ?_
  refine RL.val (litF (x_ptrNil Try.underlying34 rfl rfl) rfl) ?_
  refine RL.val (x_moveB rfl) ?_
  refine RL.gst (wantedF1 rfl rfl rfl rfl) <| St1.val (x_moveP rfl) ?_
  refine RL.gst (wantedF1 rfl rfl rfl rfl) <| St1.val (litF (x_ptrNil Try.underlying34 rfl rfl) rfl) ?_
  refine RL.val (x_orF rfl rfl rfl) ?_
  refine RL.val (x_moveB rfl) ?_
  refine RL.gst (wantedF1 rfl rfl rfl rfl) <| St1.call (vals := []) en17 rfl (awake16 _) ?_
  rintro _ w_33 ⟨rfl, K_34⟩
  replace hB_7 := hB_7.ext K_34
  replace ho_8 := ho_8.ext K_34
  replace hB_21 := hB_21.ext K_34
  replace ho_22 := ho_22.ext K_34
  replace K0 := K0.ext K_34
  refine RL.gst (wantedF1 rfl rfl rfl rfl) <| St1.val (x_not rfl) ?_
  refine RL.val (x_orF rfl rfl rfl) ?_
  refine RL.nil ?_
  refine Run.condF rfl ?_
  refine Run.skip ?_
  refine Run.seq ?_
  refine Run.region ?_
  refine RL.val (x_build (cells := #[.int .i64 (2), .string (⟨#[120]⟩)]) (by kernel_rfl)) ?_
  refine RL.val (x_build (cells := #[.int .i64 (3), .string (⟨#[121]⟩)]) (by kernel_rfl)) ?_
  refine RL.st rfl <| St1.buildSlice ([(⟨2, ⟨#[120]⟩⟩ : Hint), (⟨3, ⟨#[121]⟩⟩ : Hint)] : List Hint) Try.underlying35 ty42 rfl rfl (by first | decide | (simp [Enc.size])) ?_
  intro b_35 w_36 hl_39 ho_38 K_37
  have pr_40 : ∀ q_, own (some ⟨b_35, 0, none⟩) q_ → ¬ boxS b_1 al_2 q_ := apartNew (ge_new hl_39) hB_7.own_lt
  have pr_41 : ∀ q_, own (some ⟨b_35, 0, none⟩) q_ → ¬ own a_4 q_ := apartNew (ge_new hl_39) ho_8.own_lt
  have pr_42 : ∀ q_, own (some ⟨b_35, 0, none⟩) q_ → ¬ boxS b_15 al_16 q_ := apartNew (ge_new hl_39) hB_21.own_lt
  have pr_43 : ∀ q_, own (some ⟨b_35, 0, none⟩) q_ → ¬ own a_18 q_ := apartNew (ge_new hl_39) ho_22.own_lt
  have pg_44 : ∀ q_, own (some ⟨b_35, 0, none⟩) q_ → w.heap.size ≤ q_ := fun q_ h => Nat.le_trans K0.size ((ge_new hl_39) q_ h)
  clear hl_39
  replace hB_7 := hB_7.ext K_37
  replace ho_8 := ho_8.ext K_37
  replace hB_21 := hB_21.ext K_37
  replace ho_22 := ho_22.ext K_37
  replace K0 := K0.ext K_37
  refine RL.val (x_assignSl rfl) ?_
  refine RL.nil ?_
  refine Run.seq ?_
  refine Run.seq ?_
  refine Run.region ?_
  refine RL.val (x_moveSl rfl) ?_
  refine RL.val (litI (c := 2) (x_lenSl Try.underlying35 rfl) rfl) ?_
  refine RL.val (x_moveI rfl) ?_
  refine RL.nil ?_
  refine Run.block ?_
  refine Run.unloop ?_
  refine Run.seq ?_
  refine Run.region ?_
  refine RL.val (litT (x_ltI rfl rfl) (by decide)) ?_
  refine RL.nil ?_
  refine Run.seq ?_
  refine Run.condT rfl ?_
  refine Run.skip ?_
  refine Run.seq ?_
  refine Run.block ?_
  refine Run.seq ?_
  refine Run.region ?_
  obtain ⟨b_45, o_46, x_49, hx_50, ha_47, hc_48⟩ := ho_38.sl.el (i := 0) (by simp)
  obtain rfl : (⟨2, ⟨#[120]⟩⟩ : Hint) = x_49 := Option.some.inj hx_50
  refine RL.val (x_idxN Try.underlying35 ty42 rfl rfl ha_47 (by simp)) ?_
  refine RL.val (x_ldV (v := .agg #[.int .i64 (((⟨2, ⟨#[120]⟩⟩ : Hint)).owner), .string (((⟨2, ⟨#[120]⟩⟩ : Hint)).key)]) (y := (⟨2, ⟨#[120]⟩⟩ : Hint)) ty42 rfl hc_48 rfl) ?_
  refine RL.st rfl <| St1.alloc ty42 ?_
  intro b_51 w_52 hl_55 hb_54 K_53
  replace hb_54 : Blk w_52 b_51 [.int .i64 (0), .string (⟨#[]⟩)] 42 := hb_54
  have ne_56 : b_45 < b_51 := Nat.lt_of_lt_of_le hc_48.lt hl_55
  have pr_57 : ¬ boxS b_1 al_2 b_51 := fun h => absurd (hB_7.own_lt _ h) (by omega)
  have pr_58 : ¬ own a_4 b_51 := fun h => absurd (ho_8.own_lt _ h) (by omega)
  have pr_59 : ¬ boxS b_15 al_16 b_51 := fun h => absurd (hB_21.own_lt _ h) (by omega)
  have pr_60 : ¬ own a_18 b_51 := fun h => absurd (ho_22.own_lt _ h) (by omega)
  have pr_61 : ¬ own (some ⟨b_35, 0, none⟩) b_51 := fun h => absurd (ho_38.own_lt _ h) (by omega)
  have : w.heap.size ≤ b_51 := Nat.le_trans K0.size hl_55
  clear hl_55
  replace hB_7 := hB_7.ext K_53
  replace ho_8 := ho_8.ext K_53
  replace hB_21 := hB_21.ext K_53
  replace ho_22 := ho_22.ext K_53
  replace ho_38 := ho_38.ext K_53
  replace hc_48 := hc_48.ext K_53
  replace K0 := K0.ext K_53
  refine RL.st rfl <| St1.store (v := .agg #[.int .i64 (((⟨2, ⟨#[120]⟩⟩ : Hint)).owner), .string (((⟨2, ⟨#[120]⟩⟩ : Hint)).key)]) ty42 rfl rfl rfl (by simp [Value.cells, Value.oneCell']) hb_54 (by simp) ?_
  intro w_62 hb_54_ K_63
  have hb_54' : Blk w_62 b_51 [.int .i64 (((⟨2, ⟨#[120]⟩⟩ : Hint)).owner), .string (((⟨2, ⟨#[120]⟩⟩ : Hint)).key)] 42 := hb_54_
  clear hb_54_
  replace hB_7 := hB_7.keepO K_63 (fun q_ hq_ eq_ => pr_57 (by simp only [one] at eq_; rw [← eq_]; exact hq_))
  replace ho_8 := ho_8.keepO K_63 (fun q_ hq_ eq_ => pr_58 (by simp only [one] at eq_; rw [← eq_]; exact hq_))
  replace hB_21 := hB_21.keepO K_63 (fun q_ hq_ eq_ => pr_59 (by simp only [one] at eq_; rw [← eq_]; exact hq_))
  replace ho_22 := ho_22.keepO K_63 (fun q_ hq_ eq_ => pr_60 (by simp only [one] at eq_; rw [← eq_]; exact hq_))
  replace ho_38 := ho_38.keepO K_63 (fun q_ hq_ eq_ => pr_61 (by simp only [one] at eq_; rw [← eq_]; exact hq_))
  replace hc_48 := hc_48.keep K_63 (fun e => pr_61 (by simp only [one] at e; rw [← e]; exact (own_sub _) _ ha_47))
  replace K0 := K0.new K_63 (fun x hx => by simp only [one] at hx; omega)
  replace hb_54 := hb_54'
  clear hb_54'
  refine RL.nil ?_
  refine Run.seq ?_
  refine Run.region ?_
  refine RL.val (x_moveSl rfl) ?_
  refine RL.val (x_lenSl Try.underlying35 rfl) ?_
  refine RL.val (litT (x_ltI rfl rfl) (decide_eq_true (by omega))) ?_
  refine RL.val (x_moveB rfl) ?_
  refine RL.gst (wantedT1 rfl rfl rfl rfl) <| St1.val (x_moveP rfl) ?_
  refine RL.gst (wantedT1 rfl rfl rfl rfl) <| St1.val (x_lds (cs := #[.int .i64 (((⟨2, ⟨#[120]⟩⟩ : Hint)).owner), .string (((⟨2, ⟨#[120]⟩⟩ : Hint)).key)]) ty42 rfl rfl (hb_54.cl.drop 0 2)) ?_
  refine RL.gst (wantedT1 rfl rfl rfl rfl) <| St1.call (vals := [.pointer (some ⟨b_15, 0, none⟩), .agg #[.int .i64 (((⟨2, ⟨#[120]⟩⟩ : Hint)).owner), .string (((⟨2, ⟨#[120]⟩⟩ : Hint)).key)]]) en19 rfl (putB _ _ _ (mk16 (puts 1 keys)) 0 (⟨2, ⟨#[120]⟩⟩ : Hint) _ hB_21 (by first | omega | decide | (simp only [List.length_append, List.length_cons, List.length_nil]; omega)) (by first | omega | decide)) ?_
  rintro _ w_66 ⟨al_64, cl_65, rfl, hB_67, hm_68, K_69⟩
  obtain ⟨e1, e2⟩ := put_X hown hlt
  rw [e1]
  rw [e2] at hB_67
  clear e1 e2
  have pr_71 : ∀ q_, boxS b_15 al_64 q_ → ¬ boxS b_1 al_2 q_ := hm_68.apart pr_27 hB_7.own_lt
  have pr_72 : ∀ q_, boxS b_15 al_64 q_ → ¬ own a_4 q_ := hm_68.apart pr_28 ho_8.own_lt
  have pr_73 : ∀ q_, boxS b_15 al_64 q_ → ¬ own a_18 q_ := hm_68.apart pr_25 ho_22.own_lt
  have pr_74 : ∀ q_, boxS b_15 al_64 q_ → ¬ own (some ⟨b_35, 0, none⟩) q_ := hm_68.apart (fun q_ h1 h2 => pr_42 q_ h2 h1) ho_38.own_lt
  have pr_75 : ¬ boxS b_15 al_64 b_51 := hm_68.not pr_59 hb_54.lt
  have pg_76 : ∀ q_, boxS b_15 al_64 q_ → w.heap.size ≤ q_ := hm_68.ge pg_29 K0.size
  replace hB_7 := hB_7.keepO K_69 (fun q_ h1 h2 => pr_27 q_ h2 h1)
  replace ho_8 := ho_8.keepO K_69 (fun q_ h1 h2 => pr_28 q_ h2 h1)
  replace ho_22 := ho_22.keepO K_69 (fun q_ h1 h2 => pr_25 q_ h2 h1)
  replace ho_38 := ho_38.keepO K_69 pr_42
  replace hb_54 := hb_54.keep K_69 pr_59
  replace K0 := K0.new K_69 pg_29
  clear hm_68
  refine RL.gst (wantedT1 rfl rfl rfl rfl) <| St1.val (litF (x_neI rfl rfl) (by decide)) ?_
  refine RL.val (x_andT rfl rfl rfl) ?_
  refine RL.nil ?_
  refine Run.condF rfl ?_
  refine Run.skip ?_
  refine Run.inBlock ?_
  refine Run.region ?_
  refine RL.val (litI (c := 1) (x_add rfl rfl (by decide) (by decide)) (by decide)) ?_
  refine RL.val (x_moveI rfl) ?_
  refine RL.nil ?_
  refine Run.inLoop ?_
  refine Run.seq ?_
  refine Run.region ?_
  refine RL.val (litT (x_ltI rfl rfl) (by decide)) ?_
  refine RL.nil ?_
  refine Run.seq ?_
  refine Run.condT rfl ?_
  refine Run.skip ?_
  refine Run.seq ?_
  refine Run.block ?_
  refine Run.seq ?_
  refine Run.region ?_
  obtain ⟨b_77, o_78, x_81, hx_82, ha_79, hc_80⟩ := ho_38.sl.el (i := 1) (by simp)
  obtain rfl : (⟨3, ⟨#[121]⟩⟩ : Hint) = x_81 := Option.some.inj hx_82
  refine RL.val (x_idxN Try.underlying35 ty42 rfl rfl ha_79 (by simp)) ?_
  refine RL.val (x_ldV (v := .agg #[.int .i64 (((⟨3, ⟨#[121]⟩⟩ : Hint)).owner), .string (((⟨3, ⟨#[121]⟩⟩ : Hint)).key)]) (y := (⟨3, ⟨#[121]⟩⟩ : Hint)) ty42 rfl hc_80 rfl) ?_
  refine RL.st rfl <| St1.alloc ty42 ?_
  intro b_83 w_84 hl_87 hb_86 K_85
  replace hb_86 : Blk w_84 b_83 [.int .i64 (0), .string (⟨#[]⟩)] 42 := hb_86
  have ne_88 : b_51 < b_83 := Nat.lt_of_lt_of_le hb_54.lt hl_87
  have ne_89 : b_77 < b_83 := Nat.lt_of_lt_of_le hc_80.lt hl_87
  have pr_90 : ¬ boxS b_1 al_2 b_83 := fun h => absurd (hB_7.own_lt _ h) (by omega)
  have pr_91 : ¬ own a_4 b_83 := fun h => absurd (ho_8.own_lt _ h) (by omega)
  have pr_92 : ¬ own a_18 b_83 := fun h => absurd (ho_22.own_lt _ h) (by omega)
  have pr_93 : ¬ own (some ⟨b_35, 0, none⟩) b_83 := fun h => absurd (ho_38.own_lt _ h) (by omega)
  have pr_94 : ¬ boxS b_15 al_64 b_83 := fun h => absurd (hB_67.own_lt _ h) (by omega)
  have : w.heap.size ≤ b_83 := Nat.le_trans K0.size hl_87
  clear hl_87
  replace hB_7 := hB_7.ext K_85
  replace ho_8 := ho_8.ext K_85
  replace ho_22 := ho_22.ext K_85
  replace ho_38 := ho_38.ext K_85
  replace hb_54 := hb_54.ext K_85
  replace hB_67 := hB_67.ext K_85
  replace hc_80 := hc_80.ext K_85
  replace K0 := K0.ext K_85
  refine RL.st rfl <| St1.store (v := .agg #[.int .i64 (((⟨3, ⟨#[121]⟩⟩ : Hint)).owner), .string (((⟨3, ⟨#[121]⟩⟩ : Hint)).key)]) ty42 rfl rfl rfl (by simp [Value.cells, Value.oneCell']) hb_86 (by simp) ?_
  intro w_95 hb_86_ K_96
  have hb_86' : Blk w_95 b_83 [.int .i64 (((⟨3, ⟨#[121]⟩⟩ : Hint)).owner), .string (((⟨3, ⟨#[121]⟩⟩ : Hint)).key)] 42 := hb_86_
  clear hb_86_
  replace hB_7 := hB_7.keepO K_96 (fun q_ hq_ eq_ => pr_90 (by simp only [one] at eq_; rw [← eq_]; exact hq_))
  replace ho_8 := ho_8.keepO K_96 (fun q_ hq_ eq_ => pr_91 (by simp only [one] at eq_; rw [← eq_]; exact hq_))
  replace ho_22 := ho_22.keepO K_96 (fun q_ hq_ eq_ => pr_92 (by simp only [one] at eq_; rw [← eq_]; exact hq_))
  replace ho_38 := ho_38.keepO K_96 (fun q_ hq_ eq_ => pr_93 (by simp only [one] at eq_; rw [← eq_]; exact hq_))
  replace hb_54 := hb_54.keep K_96 (by simp only [one]; omega)
  replace hB_67 := hB_67.keepO K_96 (fun q_ hq_ eq_ => pr_94 (by simp only [one] at eq_; rw [← eq_]; exact hq_))
  replace hc_80 := hc_80.keep K_96 (fun e => pr_93 (by simp only [one] at e; rw [← e]; exact (own_sub _) _ ha_79))
  replace K0 := K0.new K_96 (fun x hx => by simp only [one] at hx; omega)
  replace hb_86 := hb_86'
  clear hb_86'
  refine RL.nil ?_
  refine Run.seq ?_
  refine Run.region ?_
  refine RL.val (x_moveSl rfl) ?_
  refine RL.val (x_lenSl Try.underlying35 rfl) ?_
  refine RL.val (litT (x_ltI rfl rfl) (decide_eq_true (by omega))) ?_
  refine RL.val (x_moveB rfl) ?_
  refine RL.gst (wantedT1 rfl rfl rfl rfl) <| St1.val (x_moveP rfl) ?_
  refine RL.gst (wantedT1 rfl rfl rfl rfl) <| St1.val (x_lds (cs := #[.int .i64 (((⟨3, ⟨#[121]⟩⟩ : Hint)).owner), .string (((⟨3, ⟨#[121]⟩⟩ : Hint)).key)]) ty42 rfl rfl (hb_86.cl.drop 0 2)) ?_
  refine RL.gst (wantedT1 rfl rfl rfl rfl) <| St1.call (vals := [.pointer (some ⟨b_15, 0, none⟩), .agg #[.int .i64 (((⟨3, ⟨#[121]⟩⟩ : Hint)).owner), .string (((⟨3, ⟨#[121]⟩⟩ : Hint)).key)]]) en19 rfl (putB _ _ _ (mk16 (puts 1 keys) ++ [⟨⟨2, ⟨#[120]⟩⟩, -1⟩]) 0 (⟨3, ⟨#[121]⟩⟩ : Hint) _ hB_67 (by first | omega | decide | (simp only [List.length_append, List.length_cons, List.length_nil]; omega)) (by first | omega | decide)) ?_
  rintro _ w_99 ⟨al_97, cl_98, rfl, hB_100, hm_101, K_102⟩
  obtain ⟨e1, e2⟩ := put_Y hown hlt
  rw [e1]
  rw [e2] at hB_100
  clear e1 e2
  have pr_104 : ∀ q_, boxS b_15 al_97 q_ → ¬ boxS b_1 al_2 q_ := hm_101.apart pr_71 hB_7.own_lt
  have pr_105 : ∀ q_, boxS b_15 al_97 q_ → ¬ own a_4 q_ := hm_101.apart pr_72 ho_8.own_lt
  have pr_106 : ∀ q_, boxS b_15 al_97 q_ → ¬ own a_18 q_ := hm_101.apart pr_73 ho_22.own_lt
  have pr_107 : ∀ q_, boxS b_15 al_97 q_ → ¬ own (some ⟨b_35, 0, none⟩) q_ := hm_101.apart pr_74 ho_38.own_lt
  have pr_108 : ¬ boxS b_15 al_97 b_51 := hm_101.not pr_75 hb_54.lt
  have pr_109 : ¬ boxS b_15 al_97 b_83 := hm_101.not pr_94 hb_86.lt
  have pg_110 : ∀ q_, boxS b_15 al_97 q_ → w.heap.size ≤ q_ := hm_101.ge pg_76 K0.size
  replace hB_7 := hB_7.keepO K_102 (fun q_ h1 h2 => pr_71 q_ h2 h1)
  replace ho_8 := ho_8.keepO K_102 (fun q_ h1 h2 => pr_72 q_ h2 h1)
  replace ho_22 := ho_22.keepO K_102 (fun q_ h1 h2 => pr_73 q_ h2 h1)
  replace ho_38 := ho_38.keepO K_102 (fun q_ h1 h2 => pr_74 q_ h2 h1)
  replace hb_54 := hb_54.keep K_102 pr_75
  replace hb_86 := hb_86.keep K_102 pr_94
  replace K0 := K0.new K_102 pg_76
  clear hm_101
  refine RL.gst (wantedT1 rfl rfl rfl rfl) <| St1.val (litF (x_neI rfl rfl) (by decide)) ?_
  refine RL.val (x_andT rfl rfl rfl) ?_
  refine RL.nil ?_
  refine Run.condF rfl ?_
  refine Run.skip ?_
  refine Run.inBlock ?_
  refine Run.region ?_
  refine RL.val (litI (c := 2) (x_add rfl rfl (by decide) (by decide)) (by decide)) ?_
  refine RL.val (x_moveI rfl) ?_
  refine RL.nil ?_
  refine Run.inLoop ?_
  refine Run.seq ?_
  refine Run.region ?_
  refine RL.val (litF (x_ltI rfl rfl) (by decide)) ?_
  refine RL.nil ?_
  refine Run.seq ?_
  refine Run.condF rfl ?_
  refine Run.exit rfl ?_
  refine Run.seq ?_
  refine Run.region ?_
  refine RL.val (x_assignI rfl) ?_
  refine RL.nil ?_
  refine Run.seq ?_
  refine Run.seq ?_
  refine Run.region ?_
  refine RL.val (x_moveSl rfl) ?_
  refine RL.val (x_lenSl Try.underlying22 rfl) ?_
  refine RL.val (x_moveI rfl) ?_
  refine RL.nil ?_
  refine Run.block ?_
  refine Run.loop (ι := Nat) (fun i ρ' w' => ∃ now : Int, ∃ bl : List KeptM, ∃ cl : List KeptM, ∃ alb : Option Addr, ∃ clb : Nat, ∃ alc : Option Addr, ∃ clc : Nat, Holds ρ' [(5, .pointer (some ⟨b_1, 0, none⟩)), (6, .slice (a_4) ((puts 1 keys).length) (c_5)), (7, .pointer (some ⟨b_15, 0, none⟩)), (8, .slice (a_18) ((puts 1 keys).length) (c_19)), (12, .int .i64 (now)), (56, .slice (at0) (times.length) (ct0)), (57, .int .i64 (((times.length : Nat) : Int))), (58, .int .i64 (((i : Nat) : Int)))] ∧ Ext w w' ∧ (Blk w' b_51 [.int .i64 (((⟨2, ⟨#[120]⟩⟩ : Hint)).owner), .string (((⟨2, ⟨#[120]⟩⟩ : Hint)).key)] 42) ∧ (Blk w' b_83 [.int .i64 (((⟨3, ⟨#[121]⟩⟩ : Hint)).owner), .string (((⟨3, ⟨#[121]⟩⟩ : Hint)).key)] 42) ∧ (OwnSl w' 42 (a_4) (c_5) (puts 1 keys)) ∧ (OwnSl w' 42 (a_18) (c_19) (puts 1 keys)) ∧ (OwnSl w' 42 (some ⟨b_35, 0, none⟩) (([(⟨2, ⟨#[120]⟩⟩ : Hint), (⟨3, ⟨#[121]⟩⟩ : Hint)] : List Hint).length) (([(⟨2, ⟨#[120]⟩⟩ : Hint), (⟨3, ⟨#[121]⟩⟩ : Hint)] : List Hint))) ∧ (BoxAt w' b_1 alb clb bl now) ∧ (BoxAt w' b_15 alc clc cl now) ∧ (¬ boxS b_1 alb b_51) ∧ (¬ boxS b_1 alb b_83) ∧ (∀ q_, boxS b_1 alb q_ → ¬ own a_4 q_) ∧ (∀ q_, boxS b_1 alb q_ → ¬ own a_18 q_) ∧ (∀ q_, boxS b_1 alb q_ → ¬ own (some ⟨b_35, 0, none⟩) q_) ∧ (∀ q_, boxS b_1 alb q_ → ¬ boxS b_15 alc q_) ∧ (∀ q_, boxS b_1 alb q_ → w.heap.size ≤ q_) ∧ (¬ boxS b_15 alc b_51) ∧ (¬ boxS b_15 alc b_83) ∧ (∀ q_, boxS b_15 alc q_ → ¬ own a_4 q_) ∧ (∀ q_, boxS b_15 alc q_ → ¬ own a_18 q_) ∧ (∀ q_, boxS b_15 alc q_ → ¬ own (some ⟨b_35, 0, none⟩) q_) ∧ (∀ q_, boxS b_15 alc q_ → w.heap.size ≤ q_) ∧ (i ≤ times.length) ∧ (0 ≤ now ∧ now ≤ 1500 * (i : Int)) ∧ (Past bl now) ∧ (Past cl now) ∧ (Beside bl cl) ∧ (bl.length ≤ 300) ∧ (cl.length ≤ 300)) (fun i => times.length - i) 0 ?_ ?_
  · refine ⟨_, _, _, _, _, _, _, ⟨rfl, rfl, rfl, rfl, rfl, rfl, rfl, rfl, trivial⟩, K0, hb_54, hb_86, ho_8, ho_22, ho_38, hB_7, hB_100, pr_57, pr_90, pr_11, (fun q_ h1 h2 => pr_30 q_ h2 h1), (fun q_ h1 h2 => pr_40 q_ h2 h1), (fun q_ h1 h2 => pr_104 q_ h2 h1), pg_13, pr_108, pr_109, pr_105, pr_106, pr_107, pg_110, ?_, ?_, ?_, ?_, ?_, ?_, ?_⟩
    · omega
    · omega
    · exact mk16_past _ (Int.le_refl _)
    · intro k hk
      rcases List.mem_append.1 hk with hk | hk
      · exact mk16_past _ (Int.le_refl _) k hk
      · simp at hk
        rcases hk with rfl | rfl <;> decide
    · exact Beside.zero _ _ hown rfl
    · omega
    · rw [List.length_append, mk16_len]; simp only [List.length_cons, List.length_nil]; omega
  clear hB_7 ho_8 ho_22 ho_38 hb_54 hb_86 hB_100
  clear K0
  rintro i ρ_128 w_111 ⟨now, bl, cl, alb, clb, alc, clc, hH_112, K0, hb_54, hb_86, ho_8, ho_22, ho_38, hO_113, hO_114, pr_115, pr_116, pr_117, pr_118, pr_119, pr_120, pr_121, pr_122, pr_123, pr_124, pr_125, pr_126, pr_127, hi, hnow, hPb, hPc, hBe, hbl, hcl⟩ ih2
  obtain ⟨ρ₀, rfl⟩ := hH_112.ex
  clear hH_112
  refine Run.seq ?_
  refine Run.region ?_
  refine RL.val (x_ltI rfl rfl) ?_
  refine RL.nil ?_
  refine Run.seq ?_
  refine Run.cond rfl (fun hc59 => ?_) (fun hc59 => ?_)
  · try simp only [br] at hc59
    refine Run.skip ?_
    refine Run.seq ?_
    refine Run.block ?_
    refine Run.seq ?_
    refine Run.region ?_
    refine RL.val (x_moveI rfl) ?_
    obtain ⟨b_129, o_130, t, ht, ha_131, hc_132⟩ := h1.el (i := i) (by omega)
    have hc_132_lt := hc_132.lt
    replace hc_132 := hc_132.ext K0
    refine RL.val (x_idxN Try.underlying22 ty3 rfl rfl ha_131 (by omega)) ?_
    refine RL.val (x_ldV (v := .int .i64 (t)) (y := t) ty3 rfl hc_132 rfl) ?_
    refine RL.val (x_assignI rfl) ?_
    refine RL.val (x_assignI rfl) ?_
    refine RL.nil ?_
    refine Run.seq ?_
    refine Run.seq ?_
    refine Run.region ?_
    refine RL.val (x_moveI rfl) ?_
    refine RL.val (x_gtI rfl rfl) ?_
    refine RL.nil ?_
    refine Run.cond rfl (fun hc64 => ?_) (fun hc64 => ?_)
    · try simp only [br] at hc64
      refine Run.exit rfl ?_
      refine Run.seq ?_
      refine Run.region ?_
      refine RL.val (x_moveSl rfl) ?_
      refine RL.val (x_moveSl rfl) ?_
      refine RL.st rfl <| St1.call (vals := [.slice (a_4) ((puts 1 keys).length) (c_5), .slice (a_18) ((puts 1 keys).length) (c_19)]) en20 rfl (equal_hint _ _ _ _ _ _ _ ho_8.sl ho_22.sl (by omega)) ?_
      rintro _ w_135 ⟨rfl, K_136⟩
      replace hb_54 := hb_54.ext K_136
      replace hb_86 := hb_86.ext K_136
      replace ho_8 := ho_8.ext K_136
      replace ho_22 := ho_22.ext K_136
      replace ho_38 := ho_38.ext K_136
      replace hO_113 := hO_113.ext K_136
      replace hO_114 := hO_114.ext K_136
      replace K0 := K0.ext K_136
      skip
      refine RL.val (litT (x_moveB rfl) (decide_eq_true rfl)) ?_
      refine RL.gst (wantedT1 rfl rfl rfl rfl) <| St1.val (x_moveP rfl) ?_
      refine RL.gst (wantedT1 rfl rfl rfl rfl) <| St1.call (vals := [.pointer (some ⟨b_1, 0, none⟩), .int .i64 (1)]) en21 rfl (countP16 _ _ _ bl now 1 _ hO_113.blk hO_113.own.sl (by first | omega | decide)) ?_
      rintro _ w_137 ⟨rfl, K_138⟩
      replace hb_54 := hb_54.ext K_138
      replace hb_86 := hb_86.ext K_138
      replace ho_8 := ho_8.ext K_138
      replace ho_22 := ho_22.ext K_138
      replace ho_38 := ho_38.ext K_138
      replace hO_113 := hO_113.ext K_138
      replace hO_114 := hO_114.ext K_138
      replace K0 := K0.ext K_138
      refine RL.gst (wantedT1 rfl rfl rfl rfl) <| St1.val (x_moveP rfl) ?_
      refine RL.gst (wantedT1 rfl rfl rfl rfl) <| St1.call (vals := [.pointer (some ⟨b_15, 0, none⟩), .int .i64 (1)]) en21 rfl (countP16 _ _ _ cl now 1 _ hO_114.blk hO_114.own.sl (by first | omega | decide)) ?_
      rintro _ w_139 ⟨rfl, K_140⟩
      replace hb_54 := hb_54.ext K_140
      replace hb_86 := hb_86.ext K_140
      replace ho_8 := ho_8.ext K_140
      replace ho_22 := ho_22.ext K_140
      replace ho_38 := ho_38.ext K_140
      replace hO_113 := hO_113.ext K_140
      replace hO_114 := hO_114.ext K_140
      replace K0 := K0.ext K_140
      refine RL.gst (wantedT1 rfl rfl rfl rfl) <| St1.val (x_eqI rfl rfl) ?_
      refine RL.val (x_andT rfl rfl rfl) ?_
      refine RL.val (x_assignB rfl) ?_
      refine RL.nil ?_
      refine Run.ret1 (v := .bool ((countB bl 1) == (countB cl 1))) Try.func6 rfl rfl ?_
      exact ⟨_, rfl, by rw [hBe.count]; simp, K0⟩
    · try simp only [br] at hc64
      refine Run.skip ?_
      refine Run.seq ?_
      obtain ⟨d, hde, hd0, hd1⟩ := few_d 1500 t (by omega) (by omega)
      refine Run.region ?_
      refine RL.val (x_moveI rfl) ?_
      refine RL.val (x_moveI rfl) ?_
      refine RL.val (x_convI rfl ⟨_, Try.underlying3⟩ Try.underlying32) ?_
      refine RL.val (x_rem rfl rfl (by decide)) ?_
      refine RL.val (litI (x_convI rfl ⟨_, Try.underlying32⟩ Try.underlying3) hde) ?_
      refine RL.val (x_add rfl rfl (by omega) (by omega)) ?_
      refine RL.val (x_assignI rfl) ?_
      refine RL.nil ?_
      refine Run.seq ?_
      refine Run.seq ?_
      have hpb : Past bl (now + d) := hPb.mono (by omega)
      have hpc : Past cl (now + d) := hPc.mono (by omega)
      have hpc2 : Past (due (now + d) cl ([2, 3, 9, -1] : List Int)).L (now + d) := due_past hpc
      obtain ⟨hBo, hTo⟩ := hBe.other (now + d) [2, 3, 9, -1] (by decide)
      obtain ⟨hBs, hTs⟩ := hBo.same (now + d)
      have hT4 : (due (now + d) cl ([2, 3, 9, -1] : List Int)).T.length ≤ 16 := due_T4 (now + d) cl [2, 3, 9, -1]
      refine Run.region ?_
      refine RL.val (x_moveP rfl) ?_
      refine RL.val (x_moveI rfl) ?_
      refine RL.st rfl <| St1.buildSlice ([2, 3, 9, -1] : List Int) Try.underlying22 ty3 rfl rfl (by first | decide | (simp [Enc.size])) ?_
      intro b_141 w_142 hl_145 ho_144 K_143
      have pr_146 : ¬ own (some ⟨b_141, 0, none⟩) b_51 := notNew (ge_new hl_145) hb_54.lt
      have pr_147 : ¬ own (some ⟨b_141, 0, none⟩) b_83 := notNew (ge_new hl_145) hb_86.lt
      have pr_148 : ∀ q_, own (some ⟨b_141, 0, none⟩) q_ → ¬ own a_4 q_ := apartNew (ge_new hl_145) ho_8.own_lt
      have pr_149 : ∀ q_, own (some ⟨b_141, 0, none⟩) q_ → ¬ own a_18 q_ := apartNew (ge_new hl_145) ho_22.own_lt
      have pr_150 : ∀ q_, own (some ⟨b_141, 0, none⟩) q_ → ¬ own (some ⟨b_35, 0, none⟩) q_ := apartNew (ge_new hl_145) ho_38.own_lt
      have pr_151 : ∀ q_, own (some ⟨b_141, 0, none⟩) q_ → ¬ boxS b_1 alb q_ := apartNew (ge_new hl_145) hO_113.own_lt
      have pr_152 : ∀ q_, own (some ⟨b_141, 0, none⟩) q_ → ¬ boxS b_15 alc q_ := apartNew (ge_new hl_145) hO_114.own_lt
      have pg_153 : ∀ q_, own (some ⟨b_141, 0, none⟩) q_ → w.heap.size ≤ q_ := fun q_ h => Nat.le_trans K0.size ((ge_new hl_145) q_ h)
      clear hl_145
      replace hb_54 := hb_54.ext K_143
      replace hb_86 := hb_86.ext K_143
      replace ho_8 := ho_8.ext K_143
      replace ho_22 := ho_22.ext K_143
      replace ho_38 := ho_38.ext K_143
      replace hO_113 := hO_113.ext K_143
      replace hO_114 := hO_114.ext K_143
      replace K0 := K0.ext K_143
      refine RL.st rfl <| St1.call (vals := [.pointer (some ⟨b_15, 0, none⟩), .int .i64 (now + d), .slice (some ⟨b_141, 0, none⟩) (([2, 3, 9, -1] : List Int).length) (([2, 3, 9, -1] : List Int).length)]) en18 rfl (dueB _ _ _ cl now (now + d) _ ([2, 3, 9, -1] : List Int) _ _ hO_114 (by first | omega | (rw [due_Ln]; omega)) ho_144.sl (fun x hx hb => (fun q_ h1 h2 => pr_152 q_ h2 h1) _ hb ⟨x, hx, rfl⟩) (by simp) (by first | omega | (rw [due_Ln]; omega)) (hPc) (by omega) (by omega) (by omega)) ?_
      rintro _ w_156 ⟨a_154, c_155, rfl, ho_157, hg_158, hB_159, K_160⟩
      rw [show max now (now + d) = (now + d) by omega] at ho_157 hB_159 ⊢
      have pr_161 : ¬ own a_154 b_51 := notNew hg_158 hb_54.lt
      have pr_162 : ¬ own a_154 b_83 := notNew hg_158 hb_86.lt
      have pr_163 : ∀ q_, own a_154 q_ → ¬ own a_4 q_ := apartNew hg_158 ho_8.own_lt
      have pr_164 : ∀ q_, own a_154 q_ → ¬ own a_18 q_ := apartNew hg_158 ho_22.own_lt
      have pr_165 : ∀ q_, own a_154 q_ → ¬ own (some ⟨b_35, 0, none⟩) q_ := apartNew hg_158 ho_38.own_lt
      have pr_166 : ∀ q_, own a_154 q_ → ¬ boxS b_1 alb q_ := apartNew hg_158 hO_113.own_lt
      have pr_167 : ∀ q_, own a_154 q_ → ¬ boxS b_15 alc q_ := apartNew hg_158 hO_114.own_lt
      have pr_168 : ∀ q_, own a_154 q_ → ¬ own (some ⟨b_141, 0, none⟩) q_ := apartNew hg_158 ho_144.own_lt
      have pg_169 : ∀ q_, own a_154 q_ → w.heap.size ≤ q_ := fun q_ h => Nat.le_trans K0.size (hg_158 q_ h)
      clear hg_158
      replace hb_54 := hb_54.keep K_160 pr_122
      replace hb_86 := hb_86.keep K_160 pr_123
      replace ho_8 := ho_8.keepO K_160 (fun q_ h1 h2 => pr_124 q_ h2 h1)
      replace ho_22 := ho_22.keepO K_160 (fun q_ h1 h2 => pr_125 q_ h2 h1)
      replace ho_38 := ho_38.keepO K_160 (fun q_ h1 h2 => pr_126 q_ h2 h1)
      replace hO_113 := hO_113.keepO K_160 pr_120
      replace ho_144 := ho_144.keepO K_160 pr_152
      replace K0 := K0.new K_160 pr_127
      replace hO_114 := hB_159
      clear hB_159
      refine RL.val (x_lenSl Try.underlying35 rfl) ?_
      refine RL.val (x_moveI rfl) ?_
      refine RL.nil ?_
      refine Run.block ?_
      refine Run.loop (ι := Nat) (fun j ρ' w' => Holds ρ' [(5, .pointer (some ⟨b_1, 0, none⟩)), (6, .slice (a_4) ((puts 1 keys).length) (c_5)), (7, .pointer (some ⟨b_15, 0, none⟩)), (8, .slice (a_18) ((puts 1 keys).length) (c_19)), (12, .int .i64 (now + d)), (56, .slice (at0) (times.length) (ct0)), (57, .int .i64 (((times.length : Nat) : Int))), (58, .int .i64 (((i : Nat) : Int))), (59, .bool (decide (((i : Nat) : Int) < ((times.length : Nat) : Int)))), (74, .slice (a_154) (((due (now + d) cl ([2, 3, 9, -1] : List Int)).T).length) (c_155)), (75, .int .i64 (((((due (now + d) cl ([2, 3, 9, -1] : List Int)).T).length : Nat) : Int))), (76, .int .i64 (((j : Nat) : Int)))] ∧ Ext w w' ∧ (Blk w' b_51 [.int .i64 (((⟨2, ⟨#[120]⟩⟩ : Hint)).owner), .string (((⟨2, ⟨#[120]⟩⟩ : Hint)).key)] 42) ∧ (Blk w' b_83 [.int .i64 (((⟨3, ⟨#[121]⟩⟩ : Hint)).owner), .string (((⟨3, ⟨#[121]⟩⟩ : Hint)).key)] 42) ∧ (OwnSl w' 42 (a_4) (c_5) (puts 1 keys)) ∧ (OwnSl w' 42 (a_18) (c_19) (puts 1 keys)) ∧ (OwnSl w' 42 (some ⟨b_35, 0, none⟩) (([(⟨2, ⟨#[120]⟩⟩ : Hint), (⟨3, ⟨#[121]⟩⟩ : Hint)] : List Hint).length) (([(⟨2, ⟨#[120]⟩⟩ : Hint), (⟨3, ⟨#[121]⟩⟩ : Hint)] : List Hint))) ∧ (BoxAt w' b_1 alb clb bl now) ∧ (BoxAt w' b_15 alc clc ((due (now + d) cl ([2, 3, 9, -1] : List Int)).L) (now + d)) ∧ (OwnSl w' 3 (some ⟨b_141, 0, none⟩) (([2, 3, 9, -1] : List Int).length) (([2, 3, 9, -1] : List Int))) ∧ (OwnSl w' 42 (a_154) (c_155) ((due (now + d) cl ([2, 3, 9, -1] : List Int)).T)) ∧ (j ≤ (due (now + d) cl ([2, 3, 9, -1] : List Int)).T.length)) (fun j => (due (now + d) cl ([2, 3, 9, -1] : List Int)).T.length - j) 0 ?_ ?_
      · refine ⟨⟨rfl, rfl, rfl, rfl, rfl, rfl, rfl, rfl, rfl, rfl, rfl, rfl, trivial⟩, K0, hb_54, hb_86, ho_8, ho_22, ho_38, hO_113, hO_114, ho_144, ho_157, ?_⟩
        · omega
      clear hb_54 hb_86 ho_8 ho_22 ho_38 hO_113 hO_114 ho_144 ho_157
      clear K0
      rintro j ρ_172 w_170 ⟨hH_171, K0, hb_54, hb_86, ho_8, ho_22, ho_38, hO_113, hO_114, ho_144, ho_157, hj⟩ ih3
      obtain ⟨ρ₀, rfl⟩ := hH_171.ex
      clear hH_171
      refine Run.seq ?_
      refine Run.region ?_
      refine RL.val (x_ltI rfl rfl) ?_
      refine RL.nil ?_
      refine Run.seq ?_
      refine Run.cond rfl (fun hc77 => ?_) (fun hc77 => ?_)
      · try simp only [br] at hc77
        refine Run.skip ?_
        refine Run.seq ?_
        refine Run.block ?_
        refine Run.seq ?_
        refine Run.region ?_
        obtain ⟨b_173, o_174, h, hx, ha_175, hc_176⟩ := ho_157.sl.el (i := j) (by omega)
        refine RL.val (x_idxN Try.underlying35 ty42 rfl rfl ha_175 (by omega)) ?_
        refine RL.val (x_ldV (v := .agg #[.int .i64 ((h).owner), .string ((h).key)]) (y := h) ty42 rfl hc_176 rfl) ?_
        refine RL.st rfl <| St1.alloc ty42 ?_
        intro b_179 w_180 hl_183 hb_182 K_181
        replace hb_182 : Blk w_180 b_179 [.int .i64 (0), .string (⟨#[]⟩)] 42 := hb_182
        have ne_184 : b_51 < b_179 := Nat.lt_of_lt_of_le hb_54.lt hl_183
        have ne_185 : b_83 < b_179 := Nat.lt_of_lt_of_le hb_86.lt hl_183
        have ne_186 : b_173 < b_179 := Nat.lt_of_lt_of_le hc_176.lt hl_183
        have pr_187 : ¬ own a_4 b_179 := fun h => absurd (ho_8.own_lt _ h) (by omega)
        have pr_188 : ¬ own a_18 b_179 := fun h => absurd (ho_22.own_lt _ h) (by omega)
        have pr_189 : ¬ own (some ⟨b_35, 0, none⟩) b_179 := fun h => absurd (ho_38.own_lt _ h) (by omega)
        have pr_190 : ¬ boxS b_1 alb b_179 := fun h => absurd (hO_113.own_lt _ h) (by omega)
        have pr_191 : ¬ boxS b_15 alc b_179 := fun h => absurd (hO_114.own_lt _ h) (by omega)
        have pr_192 : ¬ own (some ⟨b_141, 0, none⟩) b_179 := fun h => absurd (ho_144.own_lt _ h) (by omega)
        have pr_193 : ¬ own a_154 b_179 := fun h => absurd (ho_157.own_lt _ h) (by omega)
        have : w.heap.size ≤ b_179 := Nat.le_trans K0.size hl_183
        clear hl_183
        replace hb_54 := hb_54.ext K_181
        replace hb_86 := hb_86.ext K_181
        replace ho_8 := ho_8.ext K_181
        replace ho_22 := ho_22.ext K_181
        replace ho_38 := ho_38.ext K_181
        replace hO_113 := hO_113.ext K_181
        replace hO_114 := hO_114.ext K_181
        replace ho_144 := ho_144.ext K_181
        replace ho_157 := ho_157.ext K_181
        replace hc_176 := hc_176.ext K_181
        replace K0 := K0.ext K_181
        refine RL.st rfl <| St1.store (v := .agg #[.int .i64 ((h).owner), .string ((h).key)]) ty42 rfl rfl rfl (by simp [Value.cells, Value.oneCell']) hb_182 (by simp) ?_
        intro w_194 hb_182_ K_195
        have hb_182' : Blk w_194 b_179 [.int .i64 ((h).owner), .string ((h).key)] 42 := hb_182_
        clear hb_182_
        replace hb_54 := hb_54.keep K_195 (by simp only [one]; omega)
        replace hb_86 := hb_86.keep K_195 (by simp only [one]; omega)
        replace ho_8 := ho_8.keepO K_195 (fun q_ hq_ eq_ => pr_187 (by simp only [one] at eq_; rw [← eq_]; exact hq_))
        replace ho_22 := ho_22.keepO K_195 (fun q_ hq_ eq_ => pr_188 (by simp only [one] at eq_; rw [← eq_]; exact hq_))
        replace ho_38 := ho_38.keepO K_195 (fun q_ hq_ eq_ => pr_189 (by simp only [one] at eq_; rw [← eq_]; exact hq_))
        replace hO_113 := hO_113.keepO K_195 (fun q_ hq_ eq_ => pr_190 (by simp only [one] at eq_; rw [← eq_]; exact hq_))
        replace hO_114 := hO_114.keepO K_195 (fun q_ hq_ eq_ => pr_191 (by simp only [one] at eq_; rw [← eq_]; exact hq_))
        replace ho_144 := ho_144.keepO K_195 (fun q_ hq_ eq_ => pr_192 (by simp only [one] at eq_; rw [← eq_]; exact hq_))
        replace ho_157 := ho_157.keepO K_195 (fun q_ hq_ eq_ => pr_193 (by simp only [one] at eq_; rw [← eq_]; exact hq_))
        replace hc_176 := hc_176.keep K_195 (fun e => pr_193 (by simp only [one] at e; rw [← e]; exact (own_sub _) _ ha_175))
        replace K0 := K0.new K_195 (fun x hx => by simp only [one] at hx; omega)
        replace hb_182 := hb_182'
        clear hb_182'
        refine RL.nil ?_
        refine Run.seq ?_
        refine Run.region ?_
        refine RL.val (x_fld (o' := 0) Try.underlying42 rfl ty3 rfl rfl rfl) ?_
        refine RL.val (x_ld (v := .int .i64 ((h).owner)) ty3 rfl rfl (hb_182.cl.field (i := 0) rfl)) ?_
        refine RL.val (x_eqI rfl rfl) ?_
        refine RL.nil ?_
        refine Run.cond rfl (fun hc82 => ?_) (fun hc82 => ?_)
        · try simp only [br] at hc82
          exact absurd hc82 (hTo h (mem_of_at hx))
        · try simp only [br] at hc82
          refine Run.skip ?_
          refine Run.inBlock ?_
          refine Run.region ?_
          refine RL.val (x_add rfl rfl (by omega) (by omega)) ?_
          refine RL.val (x_moveI rfl) ?_
          refine RL.nil ?_
          refine ih3 (j + 1) _ _ ?_ (by omega)
          refine ⟨⟨rfl, rfl, rfl, rfl, rfl, rfl, rfl, rfl, rfl, rfl, rfl, rfl, trivial⟩, K0, hb_54, hb_86, ho_8, ho_22, ho_38, hO_113, hO_114, ho_144, ho_157, ?_⟩
          · omega
      · try simp only [br] at hc77
        refine Run.exit rfl ?_
        refine Run.seq ?_
        have hT5 : (due (now + d) bl [1]).T.length ≤ 4 := due_T4 (now + d) bl [1]
        refine Run.region ?_
        refine RL.val (x_moveP rfl) ?_
        refine RL.val (x_moveI rfl) ?_
        refine RL.st rfl <| St1.buildSlice ([1] : List Int) Try.underlying22 ty3 rfl rfl (by first | decide | (simp [Enc.size])) ?_
        intro b_196 w_197 hl_200 ho_199 K_198
        have pr_201 : ¬ own (some ⟨b_196, 0, none⟩) b_51 := notNew (ge_new hl_200) hb_54.lt
        have pr_202 : ¬ own (some ⟨b_196, 0, none⟩) b_83 := notNew (ge_new hl_200) hb_86.lt
        have pr_203 : ∀ q_, own (some ⟨b_196, 0, none⟩) q_ → ¬ own a_4 q_ := apartNew (ge_new hl_200) ho_8.own_lt
        have pr_204 : ∀ q_, own (some ⟨b_196, 0, none⟩) q_ → ¬ own a_18 q_ := apartNew (ge_new hl_200) ho_22.own_lt
        have pr_205 : ∀ q_, own (some ⟨b_196, 0, none⟩) q_ → ¬ own (some ⟨b_35, 0, none⟩) q_ := apartNew (ge_new hl_200) ho_38.own_lt
        have pr_206 : ∀ q_, own (some ⟨b_196, 0, none⟩) q_ → ¬ boxS b_1 alb q_ := apartNew (ge_new hl_200) hO_113.own_lt
        have pr_207 : ∀ q_, own (some ⟨b_196, 0, none⟩) q_ → ¬ boxS b_15 alc q_ := apartNew (ge_new hl_200) hO_114.own_lt
        have pr_208 : ∀ q_, own (some ⟨b_196, 0, none⟩) q_ → ¬ own (some ⟨b_141, 0, none⟩) q_ := apartNew (ge_new hl_200) ho_144.own_lt
        have pr_209 : ∀ q_, own (some ⟨b_196, 0, none⟩) q_ → ¬ own a_154 q_ := apartNew (ge_new hl_200) ho_157.own_lt
        have pg_210 : ∀ q_, own (some ⟨b_196, 0, none⟩) q_ → w.heap.size ≤ q_ := fun q_ h => Nat.le_trans K0.size ((ge_new hl_200) q_ h)
        clear hl_200
        replace hb_54 := hb_54.ext K_198
        replace hb_86 := hb_86.ext K_198
        replace ho_8 := ho_8.ext K_198
        replace ho_22 := ho_22.ext K_198
        replace ho_38 := ho_38.ext K_198
        replace hO_113 := hO_113.ext K_198
        replace hO_114 := hO_114.ext K_198
        replace ho_144 := ho_144.ext K_198
        replace ho_157 := ho_157.ext K_198
        replace K0 := K0.ext K_198
        refine RL.st rfl <| St1.call (vals := [.pointer (some ⟨b_1, 0, none⟩), .int .i64 (now + d), .slice (some ⟨b_196, 0, none⟩) (([1] : List Int).length) (([1] : List Int).length)]) en18 rfl (dueB _ _ _ bl now (now + d) _ ([1] : List Int) _ _ hO_113 (by first | omega | (rw [due_Ln]; omega)) ho_199.sl (fun x hx hb => (fun q_ h1 h2 => pr_206 q_ h2 h1) _ hb ⟨x, hx, rfl⟩) (by simp) (by first | omega | (rw [due_Ln]; omega)) (hPb) (by omega) (by omega) (by omega)) ?_
        rintro _ w_213 ⟨a_211, c_212, rfl, ho_214, hg_215, hB_216, K_217⟩
        rw [show max now (now + d) = (now + d) by omega] at ho_214 hB_216 ⊢
        have pr_218 : ¬ own a_211 b_51 := notNew hg_215 hb_54.lt
        have pr_219 : ¬ own a_211 b_83 := notNew hg_215 hb_86.lt
        have pr_220 : ∀ q_, own a_211 q_ → ¬ own a_4 q_ := apartNew hg_215 ho_8.own_lt
        have pr_221 : ∀ q_, own a_211 q_ → ¬ own a_18 q_ := apartNew hg_215 ho_22.own_lt
        have pr_222 : ∀ q_, own a_211 q_ → ¬ own (some ⟨b_35, 0, none⟩) q_ := apartNew hg_215 ho_38.own_lt
        have pr_223 : ∀ q_, own a_211 q_ → ¬ boxS b_1 alb q_ := apartNew hg_215 hO_113.own_lt
        have pr_224 : ∀ q_, own a_211 q_ → ¬ boxS b_15 alc q_ := apartNew hg_215 hO_114.own_lt
        have pr_225 : ∀ q_, own a_211 q_ → ¬ own (some ⟨b_141, 0, none⟩) q_ := apartNew hg_215 ho_144.own_lt
        have pr_226 : ∀ q_, own a_211 q_ → ¬ own a_154 q_ := apartNew hg_215 ho_157.own_lt
        have pr_227 : ∀ q_, own a_211 q_ → ¬ own (some ⟨b_196, 0, none⟩) q_ := apartNew hg_215 ho_199.own_lt
        have pg_228 : ∀ q_, own a_211 q_ → w.heap.size ≤ q_ := fun q_ h => Nat.le_trans K0.size (hg_215 q_ h)
        clear hg_215
        replace hb_54 := hb_54.keep K_217 pr_115
        replace hb_86 := hb_86.keep K_217 pr_116
        replace ho_8 := ho_8.keepO K_217 (fun q_ h1 h2 => pr_117 q_ h2 h1)
        replace ho_22 := ho_22.keepO K_217 (fun q_ h1 h2 => pr_118 q_ h2 h1)
        replace ho_38 := ho_38.keepO K_217 (fun q_ h1 h2 => pr_119 q_ h2 h1)
        replace hO_114 := hO_114.keepO K_217 (fun q_ h1 h2 => pr_120 q_ h2 h1)
        replace ho_144 := ho_144.keepO K_217 pr_151
        replace ho_157 := ho_157.keepO K_217 pr_166
        replace ho_199 := ho_199.keepO K_217 pr_206
        replace K0 := K0.new K_217 pr_121
        replace hO_113 := hB_216
        clear hB_216
        refine RL.val (x_moveP rfl) ?_
        refine RL.val (x_moveI rfl) ?_
        refine RL.st rfl <| St1.buildSlice ([1] : List Int) Try.underlying22 ty3 rfl rfl (by first | decide | (simp [Enc.size])) ?_
        intro b_229 w_230 hl_233 ho_232 K_231
        have pr_234 : ¬ own (some ⟨b_229, 0, none⟩) b_51 := notNew (ge_new hl_233) hb_54.lt
        have pr_235 : ¬ own (some ⟨b_229, 0, none⟩) b_83 := notNew (ge_new hl_233) hb_86.lt
        have pr_236 : ∀ q_, own (some ⟨b_229, 0, none⟩) q_ → ¬ own a_4 q_ := apartNew (ge_new hl_233) ho_8.own_lt
        have pr_237 : ∀ q_, own (some ⟨b_229, 0, none⟩) q_ → ¬ own a_18 q_ := apartNew (ge_new hl_233) ho_22.own_lt
        have pr_238 : ∀ q_, own (some ⟨b_229, 0, none⟩) q_ → ¬ own (some ⟨b_35, 0, none⟩) q_ := apartNew (ge_new hl_233) ho_38.own_lt
        have pr_239 : ∀ q_, own (some ⟨b_229, 0, none⟩) q_ → ¬ boxS b_1 alb q_ := apartNew (ge_new hl_233) hO_113.own_lt
        have pr_240 : ∀ q_, own (some ⟨b_229, 0, none⟩) q_ → ¬ boxS b_15 alc q_ := apartNew (ge_new hl_233) hO_114.own_lt
        have pr_241 : ∀ q_, own (some ⟨b_229, 0, none⟩) q_ → ¬ own (some ⟨b_141, 0, none⟩) q_ := apartNew (ge_new hl_233) ho_144.own_lt
        have pr_242 : ∀ q_, own (some ⟨b_229, 0, none⟩) q_ → ¬ own a_154 q_ := apartNew (ge_new hl_233) ho_157.own_lt
        have pr_243 : ∀ q_, own (some ⟨b_229, 0, none⟩) q_ → ¬ own (some ⟨b_196, 0, none⟩) q_ := apartNew (ge_new hl_233) ho_199.own_lt
        have pr_244 : ∀ q_, own (some ⟨b_229, 0, none⟩) q_ → ¬ own a_211 q_ := apartNew (ge_new hl_233) ho_214.own_lt
        have pg_245 : ∀ q_, own (some ⟨b_229, 0, none⟩) q_ → w.heap.size ≤ q_ := fun q_ h => Nat.le_trans K0.size ((ge_new hl_233) q_ h)
        clear hl_233
        replace hb_54 := hb_54.ext K_231
        replace hb_86 := hb_86.ext K_231
        replace ho_8 := ho_8.ext K_231
        replace ho_22 := ho_22.ext K_231
        replace ho_38 := ho_38.ext K_231
        replace hO_113 := hO_113.ext K_231
        replace hO_114 := hO_114.ext K_231
        replace ho_144 := ho_144.ext K_231
        replace ho_157 := ho_157.ext K_231
        replace ho_199 := ho_199.ext K_231
        replace ho_214 := ho_214.ext K_231
        replace K0 := K0.ext K_231
        refine RL.st rfl <| St1.call (vals := [.pointer (some ⟨b_15, 0, none⟩), .int .i64 (now + d), .slice (some ⟨b_229, 0, none⟩) (([1] : List Int).length) (([1] : List Int).length)]) en18 rfl (dueB _ _ _ ((due (now + d) cl ([2, 3, 9, -1] : List Int)).L) (now + d) (now + d) _ ([1] : List Int) _ _ hO_114 (by first | omega | (rw [due_Ln]; omega)) ho_232.sl (fun x hx hb => (fun q_ h1 h2 => pr_240 q_ h2 h1) _ hb ⟨x, hx, rfl⟩) (by simp) (by first | omega | (rw [due_Ln]; omega)) (hpc2) (by omega) (by omega) (by omega)) ?_
        rintro _ w_248 ⟨a_246, c_247, rfl, ho_249, hg_250, hB_251, K_252⟩
        rw [show max (now + d) (now + d) = (now + d) by omega] at ho_249 hB_251 ⊢
        have pr_253 : ¬ own a_246 b_51 := notNew hg_250 hb_54.lt
        have pr_254 : ¬ own a_246 b_83 := notNew hg_250 hb_86.lt
        have pr_255 : ∀ q_, own a_246 q_ → ¬ own a_4 q_ := apartNew hg_250 ho_8.own_lt
        have pr_256 : ∀ q_, own a_246 q_ → ¬ own a_18 q_ := apartNew hg_250 ho_22.own_lt
        have pr_257 : ∀ q_, own a_246 q_ → ¬ own (some ⟨b_35, 0, none⟩) q_ := apartNew hg_250 ho_38.own_lt
        have pr_258 : ∀ q_, own a_246 q_ → ¬ boxS b_1 alb q_ := apartNew hg_250 hO_113.own_lt
        have pr_259 : ∀ q_, own a_246 q_ → ¬ boxS b_15 alc q_ := apartNew hg_250 hO_114.own_lt
        have pr_260 : ∀ q_, own a_246 q_ → ¬ own (some ⟨b_141, 0, none⟩) q_ := apartNew hg_250 ho_144.own_lt
        have pr_261 : ∀ q_, own a_246 q_ → ¬ own a_154 q_ := apartNew hg_250 ho_157.own_lt
        have pr_262 : ∀ q_, own a_246 q_ → ¬ own (some ⟨b_196, 0, none⟩) q_ := apartNew hg_250 ho_199.own_lt
        have pr_263 : ∀ q_, own a_246 q_ → ¬ own a_211 q_ := apartNew hg_250 ho_214.own_lt
        have pr_264 : ∀ q_, own a_246 q_ → ¬ own (some ⟨b_229, 0, none⟩) q_ := apartNew hg_250 ho_232.own_lt
        have pg_265 : ∀ q_, own a_246 q_ → w.heap.size ≤ q_ := fun q_ h => Nat.le_trans K0.size (hg_250 q_ h)
        clear hg_250
        replace hb_54 := hb_54.keep K_252 pr_122
        replace hb_86 := hb_86.keep K_252 pr_123
        replace ho_8 := ho_8.keepO K_252 (fun q_ h1 h2 => pr_124 q_ h2 h1)
        replace ho_22 := ho_22.keepO K_252 (fun q_ h1 h2 => pr_125 q_ h2 h1)
        replace ho_38 := ho_38.keepO K_252 (fun q_ h1 h2 => pr_126 q_ h2 h1)
        replace hO_113 := hO_113.keepO K_252 pr_120
        replace ho_144 := ho_144.keepO K_252 pr_152
        replace ho_157 := ho_157.keepO K_252 pr_167
        replace ho_199 := ho_199.keepO K_252 pr_207
        replace ho_214 := ho_214.keepO K_252 pr_224
        replace ho_232 := ho_232.keepO K_252 pr_240
        replace K0 := K0.new K_252 pr_127
        replace hO_114 := hB_251
        clear hB_251
        refine RL.st rfl <| St1.call (vals := [.slice (a_211) (((due (now + d) bl ([1] : List Int)).T).length) (c_212), .slice (a_246) (((due (now + d) ((due (now + d) cl ([2, 3, 9, -1] : List Int)).L) ([1] : List Int)).T).length) (c_247)]) en20 rfl (equal_hint _ _ _ _ _ _ _ ho_214.sl ho_249.sl (by omega)) ?_
        rintro _ w_266 ⟨rfl, K_267⟩
        replace hb_54 := hb_54.ext K_267
        replace hb_86 := hb_86.ext K_267
        replace ho_8 := ho_8.ext K_267
        replace ho_22 := ho_22.ext K_267
        replace ho_38 := ho_38.ext K_267
        replace hO_113 := hO_113.ext K_267
        replace hO_114 := hO_114.ext K_267
        replace ho_144 := ho_144.ext K_267
        replace ho_157 := ho_157.ext K_267
        replace ho_199 := ho_199.ext K_267
        replace ho_214 := ho_214.ext K_267
        replace ho_232 := ho_232.ext K_267
        replace ho_249 := ho_249.ext K_267
        replace K0 := K0.ext K_267
        refine RL.val (litF (x_not rfl) (by rw [decide_eq_true hTs]; rfl)) ?_
        refine RL.nil ?_
        refine Run.condF rfl ?_
        refine Run.skip ?_
        refine Run.inBlock ?_
        refine Run.region ?_
        refine RL.val (x_add rfl rfl (by omega) (by omega)) ?_
        refine RL.val (x_moveI rfl) ?_
        refine RL.nil ?_
        refine ih2 (i + 1) _ _ ?_ (by omega)
        refine ⟨_, _, _, _, _, _, _, ⟨rfl, rfl, rfl, rfl, rfl, rfl, rfl, rfl, trivial⟩, K0, hb_54, hb_86, ho_8, ho_22, ho_38, hO_113, hO_114, pr_115, pr_116, pr_117, pr_118, pr_119, pr_120, pr_121, pr_122, pr_123, pr_124, pr_125, pr_126, pr_127, ?_, ?_, ?_, ?_, ?_, ?_, ?_⟩
        · omega
        · omega
        · exact due_past hpb
        · exact due_past hpc2
        · exact hBs
        · rw [due_Ln]; omega
        · rw [due_Ln, due_Ln]; omega
  · try simp only [br] at hc59
    refine Run.exit rfl ?_
    refine Run.seq ?_
    refine Run.region ?_
    refine RL.val (x_moveSl rfl) ?_
    refine RL.val (x_moveSl rfl) ?_
    refine RL.st rfl <| St1.call (vals := [.slice (a_4) ((puts 1 keys).length) (c_5), .slice (a_18) ((puts 1 keys).length) (c_19)]) en20 rfl (equal_hint _ _ _ _ _ _ _ ho_8.sl ho_22.sl (by omega)) ?_
    rintro _ w_268 ⟨rfl, K_269⟩
    replace hb_54 := hb_54.ext K_269
    replace hb_86 := hb_86.ext K_269
    replace ho_8 := ho_8.ext K_269
    replace ho_22 := ho_22.ext K_269
    replace ho_38 := ho_38.ext K_269
    replace hO_113 := hO_113.ext K_269
    replace hO_114 := hO_114.ext K_269
    replace K0 := K0.ext K_269
    skip
    refine RL.val (litT (x_moveB rfl) (decide_eq_true rfl)) ?_
    refine RL.gst (wantedT1 rfl rfl rfl rfl) <| St1.val (x_moveP rfl) ?_
    refine RL.gst (wantedT1 rfl rfl rfl rfl) <| St1.call (vals := [.pointer (some ⟨b_1, 0, none⟩), .int .i64 (1)]) en21 rfl (countP16 _ _ _ bl now 1 _ hO_113.blk hO_113.own.sl (by first | omega | decide)) ?_
    rintro _ w_270 ⟨rfl, K_271⟩
    replace hb_54 := hb_54.ext K_271
    replace hb_86 := hb_86.ext K_271
    replace ho_8 := ho_8.ext K_271
    replace ho_22 := ho_22.ext K_271
    replace ho_38 := ho_38.ext K_271
    replace hO_113 := hO_113.ext K_271
    replace hO_114 := hO_114.ext K_271
    replace K0 := K0.ext K_271
    refine RL.gst (wantedT1 rfl rfl rfl rfl) <| St1.val (x_moveP rfl) ?_
    refine RL.gst (wantedT1 rfl rfl rfl rfl) <| St1.call (vals := [.pointer (some ⟨b_15, 0, none⟩), .int .i64 (1)]) en21 rfl (countP16 _ _ _ cl now 1 _ hO_114.blk hO_114.own.sl (by first | omega | decide)) ?_
    rintro _ w_272 ⟨rfl, K_273⟩
    replace hb_54 := hb_54.ext K_273
    replace hb_86 := hb_86.ext K_273
    replace ho_8 := ho_8.ext K_273
    replace ho_22 := ho_22.ext K_273
    replace ho_38 := ho_38.ext K_273
    replace hO_113 := hO_113.ext K_273
    replace hO_114 := hO_114.ext K_273
    replace K0 := K0.ext K_273
    refine RL.gst (wantedT1 rfl rfl rfl rfl) <| St1.val (x_eqI rfl rfl) ?_
    refine RL.val (x_andT rfl rfl rfl) ?_
    refine RL.val (x_assignB rfl) ?_
    refine RL.nil ?_
    refine Run.ret1 (v := .bool ((countB bl 1) == (countB cl 1))) Try.func6 rfl rfl ?_
    exact ⟨_, rfl, by rw [hBe.count]; simp, K0⟩

set_option maxHeartbeats 4000000 in
theorem law_apartG (ak : Option Addr) (keys : List ByteArray) (ck : Nat) (at0 : Option Addr) (times : List Int) (ct0 : Nat) (w : World) (h0 : SlOf w ak keys) (h1 : SlOf w at0 times) (hl0 : keys.length ≤ 1048576) (hl1 : times.length ≤ 1048576) (hkz : ∀ k ∈ keys, k.size ≤ 4294967295) (hlt : ¬ (puts 1 keys).length < 250) :
    Calls Try.prog 6 #[.slice (ak) (keys.length) (ck), .slice (at0) (times.length) (ct0)] w (Ret (fun v w' => v = .bool true ∧ Ext w w')) := by
  obtain ⟨hf0, hf1⟩ := fine_puts 1 keys keys.length (Nat.le_refl _)
  have hnr : (0 : Int) ≤ 1 ∧ (1 : Int) < 8 := by omega
  have hown : ∀ h ∈ puts 1 keys, h.owner = 1 := fun h hh => (hf0.1 h hh).1
  have hpl : (puts 1 keys).length ≤ 256 := hf1
  have hml := mk16_len (puts 1 keys)
  refine calls_run (n := 105) Try.func6 rfl rfl rfl ?_
  refine Run.seq ?_
  refine Run.region ?_
  refine RL.val (x_assignB rfl) ?_
  refine RL.nil ?_
  refine Run.seq ?_
  refine Run.region ?_
  refine RL.val (x_moveSl rfl) ?_
  refine RL.st rfl <| St1.call (vals := [.int .i64 (1), .slice (ak) (keys.length) (ck)]) en16 rfl (put16 _ _ _ _ _ h0 (by omega) hnr hkz) ?_
  rintro _ w_6 ⟨b_1, al_2, cl_3, a_4, c_5, rfl, hB_7, ho_8, hg_9, hg_10, pr_11, K_12⟩
  have pg_13 : ∀ q_, boxS b_1 al_2 q_ → w.heap.size ≤ q_ := fun q_ h => Nat.le_trans (Nat.le_refl _) (hg_9 q_ h)
  have pg_14 : ∀ q_, own a_4 q_ → w.heap.size ≤ q_ := fun q_ h => Nat.le_trans (Nat.le_refl _) (hg_10 q_ h)
  clear hg_9 hg_10
  have K0 := (K_12 : Ext w _)
  refine RL.val (x_moveT rfl) ?_
  refine RL.val (x_extract rfl rfl) ?_
  refine RL.val (x_extract rfl rfl) ?_
  refine RL.val (x_assignP rfl) ?_
  refine RL.val (x_assignSl rfl) ?_
  refine RL.nil ?_
  refine Run.seq ?_
  refine Run.region ?_
  refine RL.val (x_moveSl rfl) ?_
  refine RL.st rfl <| St1.call (vals := [.int .i64 (1), .slice (ak) (keys.length) (ck)]) en16 rfl (put16 _ _ _ _ _ (h0.ext K0) (by omega) hnr hkz) ?_
  rintro _ w_20 ⟨b_15, al_16, cl_17, a_18, c_19, rfl, hB_21, ho_22, hg_23, hg_24, pr_25, K_26⟩
  have pr_27 : ∀ q_, boxS b_15 al_16 q_ → ¬ boxS b_1 al_2 q_ := apartNew hg_23 hB_7.own_lt
  have pr_28 : ∀ q_, boxS b_15 al_16 q_ → ¬ own a_4 q_ := apartNew hg_23 ho_8.own_lt
  have pg_29 : ∀ q_, boxS b_15 al_16 q_ → w.heap.size ≤ q_ := fun q_ h => Nat.le_trans K0.size (hg_23 q_ h)
  have pr_30 : ∀ q_, own a_18 q_ → ¬ boxS b_1 al_2 q_ := apartNew hg_24 hB_7.own_lt
  have pr_31 : ∀ q_, own a_18 q_ → ¬ own a_4 q_ := apartNew hg_24 ho_8.own_lt
  have pg_32 : ∀ q_, own a_18 q_ → w.heap.size ≤ q_ := fun q_ h => Nat.le_trans K0.size (hg_24 q_ h)
  clear hg_23 hg_24
  replace hB_7 := hB_7.ext K_26
  replace ho_8 := ho_8.ext K_26
  replace K0 := K0.ext K_26
  refine RL.val (x_moveT rfl) ?_
  refine RL.val (x_extract rfl rfl) ?_
  refine RL.val (x_extract rfl rfl) ?_
  refine RL.val (x_assignP rfl) ?_
  refine RL.val (x_assignSl rfl) ?_
  refine RL.nil ?_
  refine Run.seq ?_
  refine Run.seq ?_
  refine Run.region ?_
  refine RL.val (x_moveP rfl) ?_
  refine RL.val (litF (x_ptrNil Try.underlying34 rfl rfl) rfl) ?_
  refine RL.val (x_moveB rfl) ?_
  refine RL.gst (wantedF1 rfl rfl rfl rfl) <| St1.val (x_moveP rfl) ?_
  refine RL.gst (wantedF1 rfl rfl rfl rfl) <| St1.val (litF (x_ptrNil Try.underlying34 rfl rfl) rfl) ?_
  refine RL.val (x_orF rfl rfl rfl) ?_
  refine RL.val (x_moveB rfl) ?_
  refine RL.gst (wantedF1 rfl rfl rfl rfl) <| St1.call (vals := []) en17 rfl (awake16 _) ?_
  rintro _ w_33 ⟨rfl, K_34⟩
  replace hB_7 := hB_7.ext K_34
  replace ho_8 := ho_8.ext K_34
  replace hB_21 := hB_21.ext K_34
  replace ho_22 := ho_22.ext K_34
  replace K0 := K0.ext K_34
  refine RL.gst (wantedF1 rfl rfl rfl rfl) <| St1.val (x_not rfl) ?_
  refine RL.val (x_orF rfl rfl rfl) ?_
  refine RL.nil ?_
  refine Run.condF rfl ?_
  refine Run.skip ?_
  refine Run.seq ?_
  refine Run.region ?_
  refine RL.val (x_build (cells := #[.int .i64 (2), .string (⟨#[120]⟩)]) (by kernel_rfl)) ?_
  refine RL.val (x_build (cells := #[.int .i64 (3), .string (⟨#[121]⟩)]) (by kernel_rfl)) ?_
  refine RL.st rfl <| St1.buildSlice ([(⟨2, ⟨#[120]⟩⟩ : Hint), (⟨3, ⟨#[121]⟩⟩ : Hint)] : List Hint) Try.underlying35 ty42 rfl rfl (by first | decide | (simp [Enc.size])) ?_
  intro b_35 w_36 hl_39 ho_38 K_37
  have pr_40 : ∀ q_, own (some ⟨b_35, 0, none⟩) q_ → ¬ boxS b_1 al_2 q_ := apartNew (ge_new hl_39) hB_7.own_lt
  have pr_41 : ∀ q_, own (some ⟨b_35, 0, none⟩) q_ → ¬ own a_4 q_ := apartNew (ge_new hl_39) ho_8.own_lt
  have pr_42 : ∀ q_, own (some ⟨b_35, 0, none⟩) q_ → ¬ boxS b_15 al_16 q_ := apartNew (ge_new hl_39) hB_21.own_lt
  have pr_43 : ∀ q_, own (some ⟨b_35, 0, none⟩) q_ → ¬ own a_18 q_ := apartNew (ge_new hl_39) ho_22.own_lt
  have pg_44 : ∀ q_, own (some ⟨b_35, 0, none⟩) q_ → w.heap.size ≤ q_ := fun q_ h => Nat.le_trans K0.size ((ge_new hl_39) q_ h)
  clear hl_39
  replace hB_7 := hB_7.ext K_37
  replace ho_8 := ho_8.ext K_37
  replace hB_21 := hB_21.ext K_37
  replace ho_22 := ho_22.ext K_37
  replace K0 := K0.ext K_37
  refine RL.val (x_assignSl rfl) ?_
  refine RL.nil ?_
  refine Run.seq ?_
  refine Run.seq ?_
  refine Run.region ?_
  refine RL.val (x_moveSl rfl) ?_
  refine RL.val (litI (c := 2) (x_lenSl Try.underlying35 rfl) rfl) ?_
  refine RL.val (x_moveI rfl) ?_
  refine RL.nil ?_
  refine Run.block ?_
  refine Run.unloop ?_
  refine Run.seq ?_
  refine Run.region ?_
  refine RL.val (litT (x_ltI rfl rfl) (by decide)) ?_
  refine RL.nil ?_
  refine Run.seq ?_
  refine Run.condT rfl ?_
  refine Run.skip ?_
  refine Run.seq ?_
  refine Run.block ?_
  refine Run.seq ?_
  refine Run.region ?_
  obtain ⟨b_45, o_46, x_49, hx_50, ha_47, hc_48⟩ := ho_38.sl.el (i := 0) (by simp)
  obtain rfl : (⟨2, ⟨#[120]⟩⟩ : Hint) = x_49 := Option.some.inj hx_50
  refine RL.val (x_idxN Try.underlying35 ty42 rfl rfl ha_47 (by simp)) ?_
  refine RL.val (x_ldV (v := .agg #[.int .i64 (((⟨2, ⟨#[120]⟩⟩ : Hint)).owner), .string (((⟨2, ⟨#[120]⟩⟩ : Hint)).key)]) (y := (⟨2, ⟨#[120]⟩⟩ : Hint)) ty42 rfl hc_48 rfl) ?_
  refine RL.st rfl <| St1.alloc ty42 ?_
  intro b_51 w_52 hl_55 hb_54 K_53
  replace hb_54 : Blk w_52 b_51 [.int .i64 (0), .string (⟨#[]⟩)] 42 := hb_54
  have ne_56 : b_45 < b_51 := Nat.lt_of_lt_of_le hc_48.lt hl_55
  have pr_57 : ¬ boxS b_1 al_2 b_51 := fun h => absurd (hB_7.own_lt _ h) (by omega)
  have pr_58 : ¬ own a_4 b_51 := fun h => absurd (ho_8.own_lt _ h) (by omega)
  have pr_59 : ¬ boxS b_15 al_16 b_51 := fun h => absurd (hB_21.own_lt _ h) (by omega)
  have pr_60 : ¬ own a_18 b_51 := fun h => absurd (ho_22.own_lt _ h) (by omega)
  have pr_61 : ¬ own (some ⟨b_35, 0, none⟩) b_51 := fun h => absurd (ho_38.own_lt _ h) (by omega)
  have : w.heap.size ≤ b_51 := Nat.le_trans K0.size hl_55
  clear hl_55
  replace hB_7 := hB_7.ext K_53
  replace ho_8 := ho_8.ext K_53
  replace hB_21 := hB_21.ext K_53
  replace ho_22 := ho_22.ext K_53
  replace ho_38 := ho_38.ext K_53
  replace hc_48 := hc_48.ext K_53
  replace K0 := K0.ext K_53
  refine RL.st rfl <| St1.store (v := .agg #[.int .i64 (((⟨2, ⟨#[120]⟩⟩ : Hint)).owner), .string (((⟨2, ⟨#[120]⟩⟩ : Hint)).key)]) ty42 rfl rfl rfl (by simp [Value.cells, Value.oneCell']) hb_54 (by simp) ?_
  intro w_62 hb_54_ K_63
  have hb_54' : Blk w_62 b_51 [.int .i64 (((⟨2, ⟨#[120]⟩⟩ : Hint)).owner), .string (((⟨2, ⟨#[120]⟩⟩ : Hint)).key)] 42 := hb_54_
  clear hb_54_
  replace hB_7 := hB_7.keepO K_63 (fun q_ hq_ eq_ => pr_57 (by simp only [one] at eq_; rw [← eq_]; exact hq_))
  replace ho_8 := ho_8.keepO K_63 (fun q_ hq_ eq_ => pr_58 (by simp only [one] at eq_; rw [← eq_]; exact hq_))
  replace hB_21 := hB_21.keepO K_63 (fun q_ hq_ eq_ => pr_59 (by simp only [one] at eq_; rw [← eq_]; exact hq_))
  replace ho_22 := ho_22.keepO K_63 (fun q_ hq_ eq_ => pr_60 (by simp only [one] at eq_; rw [← eq_]; exact hq_))
  replace ho_38 := ho_38.keepO K_63 (fun q_ hq_ eq_ => pr_61 (by simp only [one] at eq_; rw [← eq_]; exact hq_))
  replace hc_48 := hc_48.keep K_63 (fun e => pr_61 (by simp only [one] at e; rw [← e]; exact (own_sub _) _ ha_47))
  replace K0 := K0.new K_63 (fun x hx => by simp only [one] at hx; omega)
  replace hb_54 := hb_54'
  clear hb_54'
  refine RL.nil ?_
  refine Run.seq ?_
  refine Run.region ?_
  refine RL.val (x_moveSl rfl) ?_
  refine RL.val (x_lenSl Try.underlying35 rfl) ?_
  refine RL.val (litF (x_ltI rfl rfl) (decide_eq_false (by omega))) ?_
  refine RL.val (x_moveB rfl) ?_
  refine RL.guardF (wantedT0 rfl rfl rfl rfl) ?_
  refine RL.guardF (wantedT0 rfl rfl rfl rfl) ?_
  refine RL.guardF (wantedT0 rfl rfl rfl rfl) ?_
  refine RL.guardF (wantedT0 rfl rfl rfl rfl) ?_
  refine RL.val (x_and (b := false) (e := false) rfl rfl rfl) ?_
  refine RL.nil ?_
  refine Run.condF rfl ?_
  refine Run.skip ?_
  refine Run.inBlock ?_
  refine Run.region ?_
  refine RL.val (litI (c := 1) (x_add rfl rfl (by decide) (by decide)) (by decide)) ?_
  refine RL.val (x_moveI rfl) ?_
  refine RL.nil ?_
  refine Run.inLoop ?_
  refine Run.seq ?_
  refine Run.region ?_
  refine RL.val (litT (x_ltI rfl rfl) (by decide)) ?_
  refine RL.nil ?_
  refine Run.seq ?_
  refine Run.condT rfl ?_
  refine Run.skip ?_
  refine Run.seq ?_
  refine Run.block ?_
  refine Run.seq ?_
  refine Run.region ?_
  obtain ⟨b_64, o_65, x_68, hx_69, ha_66, hc_67⟩ := ho_38.sl.el (i := 1) (by simp)
  obtain rfl : (⟨3, ⟨#[121]⟩⟩ : Hint) = x_68 := Option.some.inj hx_69
  refine RL.val (x_idxN Try.underlying35 ty42 rfl rfl ha_66 (by simp)) ?_
  refine RL.val (x_ldV (v := .agg #[.int .i64 (((⟨3, ⟨#[121]⟩⟩ : Hint)).owner), .string (((⟨3, ⟨#[121]⟩⟩ : Hint)).key)]) (y := (⟨3, ⟨#[121]⟩⟩ : Hint)) ty42 rfl hc_67 rfl) ?_
  refine RL.st rfl <| St1.alloc ty42 ?_
  intro b_70 w_71 hl_74 hb_73 K_72
  replace hb_73 : Blk w_71 b_70 [.int .i64 (0), .string (⟨#[]⟩)] 42 := hb_73
  have ne_75 : b_51 < b_70 := Nat.lt_of_lt_of_le hb_54.lt hl_74
  have ne_76 : b_64 < b_70 := Nat.lt_of_lt_of_le hc_67.lt hl_74
  have pr_77 : ¬ boxS b_1 al_2 b_70 := fun h => absurd (hB_7.own_lt _ h) (by omega)
  have pr_78 : ¬ own a_4 b_70 := fun h => absurd (ho_8.own_lt _ h) (by omega)
  have pr_79 : ¬ boxS b_15 al_16 b_70 := fun h => absurd (hB_21.own_lt _ h) (by omega)
  have pr_80 : ¬ own a_18 b_70 := fun h => absurd (ho_22.own_lt _ h) (by omega)
  have pr_81 : ¬ own (some ⟨b_35, 0, none⟩) b_70 := fun h => absurd (ho_38.own_lt _ h) (by omega)
  have : w.heap.size ≤ b_70 := Nat.le_trans K0.size hl_74
  clear hl_74
  replace hB_7 := hB_7.ext K_72
  replace ho_8 := ho_8.ext K_72
  replace hB_21 := hB_21.ext K_72
  replace ho_22 := ho_22.ext K_72
  replace ho_38 := ho_38.ext K_72
  replace hb_54 := hb_54.ext K_72
  replace hc_67 := hc_67.ext K_72
  replace K0 := K0.ext K_72
  refine RL.st rfl <| St1.store (v := .agg #[.int .i64 (((⟨3, ⟨#[121]⟩⟩ : Hint)).owner), .string (((⟨3, ⟨#[121]⟩⟩ : Hint)).key)]) ty42 rfl rfl rfl (by simp [Value.cells, Value.oneCell']) hb_73 (by simp) ?_
  intro w_82 hb_73_ K_83
  have hb_73' : Blk w_82 b_70 [.int .i64 (((⟨3, ⟨#[121]⟩⟩ : Hint)).owner), .string (((⟨3, ⟨#[121]⟩⟩ : Hint)).key)] 42 := hb_73_
  clear hb_73_
  replace hB_7 := hB_7.keepO K_83 (fun q_ hq_ eq_ => pr_77 (by simp only [one] at eq_; rw [← eq_]; exact hq_))
  replace ho_8 := ho_8.keepO K_83 (fun q_ hq_ eq_ => pr_78 (by simp only [one] at eq_; rw [← eq_]; exact hq_))
  replace hB_21 := hB_21.keepO K_83 (fun q_ hq_ eq_ => pr_79 (by simp only [one] at eq_; rw [← eq_]; exact hq_))
  replace ho_22 := ho_22.keepO K_83 (fun q_ hq_ eq_ => pr_80 (by simp only [one] at eq_; rw [← eq_]; exact hq_))
  replace ho_38 := ho_38.keepO K_83 (fun q_ hq_ eq_ => pr_81 (by simp only [one] at eq_; rw [← eq_]; exact hq_))
  replace hb_54 := hb_54.keep K_83 (by simp only [one]; omega)
  replace hc_67 := hc_67.keep K_83 (fun e => pr_81 (by simp only [one] at e; rw [← e]; exact (own_sub _) _ ha_66))
  replace K0 := K0.new K_83 (fun x hx => by simp only [one] at hx; omega)
  replace hb_73 := hb_73'
  clear hb_73'
  refine RL.nil ?_
  refine Run.seq ?_
  refine Run.region ?_
  refine RL.val (x_moveSl rfl) ?_
  refine RL.val (x_lenSl Try.underlying35 rfl) ?_
  refine RL.val (litF (x_ltI rfl rfl) (decide_eq_false (by omega))) ?_
  refine RL.val (x_moveB rfl) ?_
  refine RL.guardF (wantedT0 rfl rfl rfl rfl) ?_
  refine RL.guardF (wantedT0 rfl rfl rfl rfl) ?_
  refine RL.guardF (wantedT0 rfl rfl rfl rfl) ?_
  refine RL.guardF (wantedT0 rfl rfl rfl rfl) ?_
  refine RL.val (x_and (b := false) (e := false) rfl rfl rfl) ?_
  refine RL.nil ?_
  refine Run.condF rfl ?_
  refine Run.skip ?_
  refine Run.inBlock ?_
  refine Run.region ?_
  refine RL.val (litI (c := 2) (x_add rfl rfl (by decide) (by decide)) (by decide)) ?_
  refine RL.val (x_moveI rfl) ?_
  refine RL.nil ?_
  refine Run.inLoop ?_
  refine Run.seq ?_
  refine Run.region ?_
  refine RL.val (litF (x_ltI rfl rfl) (by decide)) ?_
  refine RL.nil ?_
  refine Run.seq ?_
  refine Run.condF rfl ?_
  refine Run.exit rfl ?_
  refine Run.seq ?_
  rw [← List.append_nil (mk16 (puts 1 keys))] at hB_21
  refine Run.region ?_
  refine RL.val (x_assignI rfl) ?_
  refine RL.nil ?_
  refine Run.seq ?_
  refine Run.seq ?_
  refine Run.region ?_
  refine RL.val (x_moveSl rfl) ?_
  refine RL.val (x_lenSl Try.underlying22 rfl) ?_
  refine RL.val (x_moveI rfl) ?_
  refine RL.nil ?_
  refine Run.block ?_
  refine Run.loop (ι := Nat) (fun i ρ' w' => ∃ now : Int, ∃ bl : List KeptM, ∃ cl : List KeptM, ∃ alb : Option Addr, ∃ clb : Nat, ∃ alc : Option Addr, ∃ clc : Nat, Holds ρ' [(5, .pointer (some ⟨b_1, 0, none⟩)), (6, .slice (a_4) ((puts 1 keys).length) (c_5)), (7, .pointer (some ⟨b_15, 0, none⟩)), (8, .slice (a_18) ((puts 1 keys).length) (c_19)), (12, .int .i64 (now)), (56, .slice (at0) (times.length) (ct0)), (57, .int .i64 (((times.length : Nat) : Int))), (58, .int .i64 (((i : Nat) : Int)))] ∧ Ext w w' ∧ (Blk w' b_51 [.int .i64 (((⟨2, ⟨#[120]⟩⟩ : Hint)).owner), .string (((⟨2, ⟨#[120]⟩⟩ : Hint)).key)] 42) ∧ (Blk w' b_70 [.int .i64 (((⟨3, ⟨#[121]⟩⟩ : Hint)).owner), .string (((⟨3, ⟨#[121]⟩⟩ : Hint)).key)] 42) ∧ (OwnSl w' 42 (a_4) (c_5) (puts 1 keys)) ∧ (OwnSl w' 42 (a_18) (c_19) (puts 1 keys)) ∧ (OwnSl w' 42 (some ⟨b_35, 0, none⟩) (([(⟨2, ⟨#[120]⟩⟩ : Hint), (⟨3, ⟨#[121]⟩⟩ : Hint)] : List Hint).length) (([(⟨2, ⟨#[120]⟩⟩ : Hint), (⟨3, ⟨#[121]⟩⟩ : Hint)] : List Hint))) ∧ (BoxAt w' b_1 alb clb bl now) ∧ (BoxAt w' b_15 alc clc cl now) ∧ (¬ boxS b_1 alb b_51) ∧ (¬ boxS b_1 alb b_70) ∧ (∀ q_, boxS b_1 alb q_ → ¬ own a_4 q_) ∧ (∀ q_, boxS b_1 alb q_ → ¬ own a_18 q_) ∧ (∀ q_, boxS b_1 alb q_ → ¬ own (some ⟨b_35, 0, none⟩) q_) ∧ (∀ q_, boxS b_1 alb q_ → ¬ boxS b_15 alc q_) ∧ (∀ q_, boxS b_1 alb q_ → w.heap.size ≤ q_) ∧ (¬ boxS b_15 alc b_51) ∧ (¬ boxS b_15 alc b_70) ∧ (∀ q_, boxS b_15 alc q_ → ¬ own a_4 q_) ∧ (∀ q_, boxS b_15 alc q_ → ¬ own a_18 q_) ∧ (∀ q_, boxS b_15 alc q_ → ¬ own (some ⟨b_35, 0, none⟩) q_) ∧ (∀ q_, boxS b_15 alc q_ → w.heap.size ≤ q_) ∧ (i ≤ times.length) ∧ (0 ≤ now ∧ now ≤ 1500 * (i : Int)) ∧ (Past bl now) ∧ (Past cl now) ∧ (Beside bl cl) ∧ (bl.length ≤ 300) ∧ (cl.length ≤ 300)) (fun i => times.length - i) 0 ?_ ?_
  · refine ⟨_, _, _, _, _, _, _, ⟨rfl, rfl, rfl, rfl, rfl, rfl, rfl, rfl, trivial⟩, K0, hb_54, hb_73, ho_8, ho_22, ho_38, hB_7, hB_21, pr_57, pr_77, pr_11, (fun q_ h1 h2 => pr_30 q_ h2 h1), (fun q_ h1 h2 => pr_40 q_ h2 h1), (fun q_ h1 h2 => pr_27 q_ h2 h1), pg_13, pr_59, pr_79, pr_28, pr_25, (fun q_ h1 h2 => pr_42 q_ h2 h1), pg_29, ?_, ?_, ?_, ?_, ?_, ?_, ?_⟩
    · omega
    · omega
    · exact mk16_past _ (Int.le_refl _)
    · intro k hk
      rcases List.mem_append.1 hk with hk | hk
      · exact mk16_past _ (Int.le_refl _) k hk
      · simp at hk
    · exact Beside.zero _ _ hown rfl
    · omega
    · rw [List.length_append, mk16_len]; simp only [List.length_cons, List.length_nil]; omega
  clear hB_7 ho_8 hB_21 ho_22 ho_38 hb_54 hb_73
  clear K0
  rintro i ρ_101 w_84 ⟨now, bl, cl, alb, clb, alc, clc, hH_85, K0, hb_54, hb_73, ho_8, ho_22, ho_38, hO_86, hO_87, pr_88, pr_89, pr_90, pr_91, pr_92, pr_93, pr_94, pr_95, pr_96, pr_97, pr_98, pr_99, pr_100, hi, hnow, hPb, hPc, hBe, hbl, hcl⟩ ih2
  obtain ⟨ρ₀, rfl⟩ := hH_85.ex
  clear hH_85
  refine Run.seq ?_
  refine Run.region ?_
  refine RL.val (x_ltI rfl rfl) ?_
  refine RL.nil ?_
  refine Run.seq ?_
  refine Run.cond rfl (fun hc59 => ?_) (fun hc59 => ?_)
  · try simp only [br] at hc59
    refine Run.skip ?_
    refine Run.seq ?_
    refine Run.block ?_
    refine Run.seq ?_
    refine Run.region ?_
    refine RL.val (x_moveI rfl) ?_
    obtain ⟨b_102, o_103, t, ht, ha_104, hc_105⟩ := h1.el (i := i) (by omega)
    have hc_105_lt := hc_105.lt
    replace hc_105 := hc_105.ext K0
    refine RL.val (x_idxN Try.underlying22 ty3 rfl rfl ha_104 (by omega)) ?_
    refine RL.val (x_ldV (v := .int .i64 (t)) (y := t) ty3 rfl hc_105 rfl) ?_
    refine RL.val (x_assignI rfl) ?_
    refine RL.val (x_assignI rfl) ?_
    refine RL.nil ?_
    refine Run.seq ?_
    refine Run.seq ?_
    refine Run.region ?_
    refine RL.val (x_moveI rfl) ?_
    refine RL.val (x_gtI rfl rfl) ?_
    refine RL.nil ?_
    refine Run.cond rfl (fun hc64 => ?_) (fun hc64 => ?_)
    · try simp only [br] at hc64
      refine Run.exit rfl ?_
      refine Run.seq ?_
      refine Run.region ?_
      refine RL.val (x_moveSl rfl) ?_
      refine RL.val (x_moveSl rfl) ?_
      refine RL.st rfl <| St1.call (vals := [.slice (a_4) ((puts 1 keys).length) (c_5), .slice (a_18) ((puts 1 keys).length) (c_19)]) en20 rfl (equal_hint _ _ _ _ _ _ _ ho_8.sl ho_22.sl (by omega)) ?_
      rintro _ w_108 ⟨rfl, K_109⟩
      replace hb_54 := hb_54.ext K_109
      replace hb_73 := hb_73.ext K_109
      replace ho_8 := ho_8.ext K_109
      replace ho_22 := ho_22.ext K_109
      replace ho_38 := ho_38.ext K_109
      replace hO_86 := hO_86.ext K_109
      replace hO_87 := hO_87.ext K_109
      replace K0 := K0.ext K_109
      skip
      refine RL.val (litT (x_moveB rfl) (decide_eq_true rfl)) ?_
      refine RL.gst (wantedT1 rfl rfl rfl rfl) <| St1.val (x_moveP rfl) ?_
      refine RL.gst (wantedT1 rfl rfl rfl rfl) <| St1.call (vals := [.pointer (some ⟨b_1, 0, none⟩), .int .i64 (1)]) en21 rfl (countP16 _ _ _ bl now 1 _ hO_86.blk hO_86.own.sl (by first | omega | decide)) ?_
      rintro _ w_110 ⟨rfl, K_111⟩
      replace hb_54 := hb_54.ext K_111
      replace hb_73 := hb_73.ext K_111
      replace ho_8 := ho_8.ext K_111
      replace ho_22 := ho_22.ext K_111
      replace ho_38 := ho_38.ext K_111
      replace hO_86 := hO_86.ext K_111
      replace hO_87 := hO_87.ext K_111
      replace K0 := K0.ext K_111
      refine RL.gst (wantedT1 rfl rfl rfl rfl) <| St1.val (x_moveP rfl) ?_
      refine RL.gst (wantedT1 rfl rfl rfl rfl) <| St1.call (vals := [.pointer (some ⟨b_15, 0, none⟩), .int .i64 (1)]) en21 rfl (countP16 _ _ _ cl now 1 _ hO_87.blk hO_87.own.sl (by first | omega | decide)) ?_
      rintro _ w_112 ⟨rfl, K_113⟩
      replace hb_54 := hb_54.ext K_113
      replace hb_73 := hb_73.ext K_113
      replace ho_8 := ho_8.ext K_113
      replace ho_22 := ho_22.ext K_113
      replace ho_38 := ho_38.ext K_113
      replace hO_86 := hO_86.ext K_113
      replace hO_87 := hO_87.ext K_113
      replace K0 := K0.ext K_113
      refine RL.gst (wantedT1 rfl rfl rfl rfl) <| St1.val (x_eqI rfl rfl) ?_
      refine RL.val (x_andT rfl rfl rfl) ?_
      refine RL.val (x_assignB rfl) ?_
      refine RL.nil ?_
      refine Run.ret1 (v := .bool ((countB bl 1) == (countB cl 1))) Try.func6 rfl rfl ?_
      exact ⟨_, rfl, by rw [hBe.count]; simp, K0⟩
    · try simp only [br] at hc64
      refine Run.skip ?_
      refine Run.seq ?_
      obtain ⟨d, hde, hd0, hd1⟩ := few_d 1500 t (by omega) (by omega)
      refine Run.region ?_
      refine RL.val (x_moveI rfl) ?_
      refine RL.val (x_moveI rfl) ?_
      refine RL.val (x_convI rfl ⟨_, Try.underlying3⟩ Try.underlying32) ?_
      refine RL.val (x_rem rfl rfl (by decide)) ?_
      refine RL.val (litI (x_convI rfl ⟨_, Try.underlying32⟩ Try.underlying3) hde) ?_
      refine RL.val (x_add rfl rfl (by omega) (by omega)) ?_
      refine RL.val (x_assignI rfl) ?_
      refine RL.nil ?_
      refine Run.seq ?_
      refine Run.seq ?_
      have hpb : Past bl (now + d) := hPb.mono (by omega)
      have hpc : Past cl (now + d) := hPc.mono (by omega)
      have hpc2 : Past (due (now + d) cl ([2, 3, 9, -1] : List Int)).L (now + d) := due_past hpc
      obtain ⟨hBo, hTo⟩ := hBe.other (now + d) [2, 3, 9, -1] (by decide)
      obtain ⟨hBs, hTs⟩ := hBo.same (now + d)
      have hT4 : (due (now + d) cl ([2, 3, 9, -1] : List Int)).T.length ≤ 16 := due_T4 (now + d) cl [2, 3, 9, -1]
      refine Run.region ?_
      refine RL.val (x_moveP rfl) ?_
      refine RL.val (x_moveI rfl) ?_
      refine RL.st rfl <| St1.buildSlice ([2, 3, 9, -1] : List Int) Try.underlying22 ty3 rfl rfl (by first | decide | (simp [Enc.size])) ?_
      intro b_114 w_115 hl_118 ho_117 K_116
      have pr_119 : ¬ own (some ⟨b_114, 0, none⟩) b_51 := notNew (ge_new hl_118) hb_54.lt
      have pr_120 : ¬ own (some ⟨b_114, 0, none⟩) b_70 := notNew (ge_new hl_118) hb_73.lt
      have pr_121 : ∀ q_, own (some ⟨b_114, 0, none⟩) q_ → ¬ own a_4 q_ := apartNew (ge_new hl_118) ho_8.own_lt
      have pr_122 : ∀ q_, own (some ⟨b_114, 0, none⟩) q_ → ¬ own a_18 q_ := apartNew (ge_new hl_118) ho_22.own_lt
      have pr_123 : ∀ q_, own (some ⟨b_114, 0, none⟩) q_ → ¬ own (some ⟨b_35, 0, none⟩) q_ := apartNew (ge_new hl_118) ho_38.own_lt
      have pr_124 : ∀ q_, own (some ⟨b_114, 0, none⟩) q_ → ¬ boxS b_1 alb q_ := apartNew (ge_new hl_118) hO_86.own_lt
      have pr_125 : ∀ q_, own (some ⟨b_114, 0, none⟩) q_ → ¬ boxS b_15 alc q_ := apartNew (ge_new hl_118) hO_87.own_lt
      have pg_126 : ∀ q_, own (some ⟨b_114, 0, none⟩) q_ → w.heap.size ≤ q_ := fun q_ h => Nat.le_trans K0.size ((ge_new hl_118) q_ h)
      clear hl_118
      replace hb_54 := hb_54.ext K_116
      replace hb_73 := hb_73.ext K_116
      replace ho_8 := ho_8.ext K_116
      replace ho_22 := ho_22.ext K_116
      replace ho_38 := ho_38.ext K_116
      replace hO_86 := hO_86.ext K_116
      replace hO_87 := hO_87.ext K_116
      replace K0 := K0.ext K_116
      refine RL.st rfl <| St1.call (vals := [.pointer (some ⟨b_15, 0, none⟩), .int .i64 (now + d), .slice (some ⟨b_114, 0, none⟩) (([2, 3, 9, -1] : List Int).length) (([2, 3, 9, -1] : List Int).length)]) en18 rfl (dueB _ _ _ cl now (now + d) _ ([2, 3, 9, -1] : List Int) _ _ hO_87 (by first | omega | (rw [due_Ln]; omega)) ho_117.sl (fun x hx hb => (fun q_ h1 h2 => pr_125 q_ h2 h1) _ hb ⟨x, hx, rfl⟩) (by simp) (by first | omega | (rw [due_Ln]; omega)) (hPc) (by omega) (by omega) (by omega)) ?_
      rintro _ w_129 ⟨a_127, c_128, rfl, ho_130, hg_131, hB_132, K_133⟩
      rw [show max now (now + d) = (now + d) by omega] at ho_130 hB_132 ⊢
      have pr_134 : ¬ own a_127 b_51 := notNew hg_131 hb_54.lt
      have pr_135 : ¬ own a_127 b_70 := notNew hg_131 hb_73.lt
      have pr_136 : ∀ q_, own a_127 q_ → ¬ own a_4 q_ := apartNew hg_131 ho_8.own_lt
      have pr_137 : ∀ q_, own a_127 q_ → ¬ own a_18 q_ := apartNew hg_131 ho_22.own_lt
      have pr_138 : ∀ q_, own a_127 q_ → ¬ own (some ⟨b_35, 0, none⟩) q_ := apartNew hg_131 ho_38.own_lt
      have pr_139 : ∀ q_, own a_127 q_ → ¬ boxS b_1 alb q_ := apartNew hg_131 hO_86.own_lt
      have pr_140 : ∀ q_, own a_127 q_ → ¬ boxS b_15 alc q_ := apartNew hg_131 hO_87.own_lt
      have pr_141 : ∀ q_, own a_127 q_ → ¬ own (some ⟨b_114, 0, none⟩) q_ := apartNew hg_131 ho_117.own_lt
      have pg_142 : ∀ q_, own a_127 q_ → w.heap.size ≤ q_ := fun q_ h => Nat.le_trans K0.size (hg_131 q_ h)
      clear hg_131
      replace hb_54 := hb_54.keep K_133 pr_95
      replace hb_73 := hb_73.keep K_133 pr_96
      replace ho_8 := ho_8.keepO K_133 (fun q_ h1 h2 => pr_97 q_ h2 h1)
      replace ho_22 := ho_22.keepO K_133 (fun q_ h1 h2 => pr_98 q_ h2 h1)
      replace ho_38 := ho_38.keepO K_133 (fun q_ h1 h2 => pr_99 q_ h2 h1)
      replace hO_86 := hO_86.keepO K_133 pr_93
      replace ho_117 := ho_117.keepO K_133 pr_125
      replace K0 := K0.new K_133 pr_100
      replace hO_87 := hB_132
      clear hB_132
      refine RL.val (x_lenSl Try.underlying35 rfl) ?_
      refine RL.val (x_moveI rfl) ?_
      refine RL.nil ?_
      refine Run.block ?_
      refine Run.loop (ι := Nat) (fun j ρ' w' => Holds ρ' [(5, .pointer (some ⟨b_1, 0, none⟩)), (6, .slice (a_4) ((puts 1 keys).length) (c_5)), (7, .pointer (some ⟨b_15, 0, none⟩)), (8, .slice (a_18) ((puts 1 keys).length) (c_19)), (12, .int .i64 (now + d)), (56, .slice (at0) (times.length) (ct0)), (57, .int .i64 (((times.length : Nat) : Int))), (58, .int .i64 (((i : Nat) : Int))), (59, .bool (decide (((i : Nat) : Int) < ((times.length : Nat) : Int)))), (74, .slice (a_127) (((due (now + d) cl ([2, 3, 9, -1] : List Int)).T).length) (c_128)), (75, .int .i64 (((((due (now + d) cl ([2, 3, 9, -1] : List Int)).T).length : Nat) : Int))), (76, .int .i64 (((j : Nat) : Int)))] ∧ Ext w w' ∧ (Blk w' b_51 [.int .i64 (((⟨2, ⟨#[120]⟩⟩ : Hint)).owner), .string (((⟨2, ⟨#[120]⟩⟩ : Hint)).key)] 42) ∧ (Blk w' b_70 [.int .i64 (((⟨3, ⟨#[121]⟩⟩ : Hint)).owner), .string (((⟨3, ⟨#[121]⟩⟩ : Hint)).key)] 42) ∧ (OwnSl w' 42 (a_4) (c_5) (puts 1 keys)) ∧ (OwnSl w' 42 (a_18) (c_19) (puts 1 keys)) ∧ (OwnSl w' 42 (some ⟨b_35, 0, none⟩) (([(⟨2, ⟨#[120]⟩⟩ : Hint), (⟨3, ⟨#[121]⟩⟩ : Hint)] : List Hint).length) (([(⟨2, ⟨#[120]⟩⟩ : Hint), (⟨3, ⟨#[121]⟩⟩ : Hint)] : List Hint))) ∧ (BoxAt w' b_1 alb clb bl now) ∧ (BoxAt w' b_15 alc clc ((due (now + d) cl ([2, 3, 9, -1] : List Int)).L) (now + d)) ∧ (OwnSl w' 3 (some ⟨b_114, 0, none⟩) (([2, 3, 9, -1] : List Int).length) (([2, 3, 9, -1] : List Int))) ∧ (OwnSl w' 42 (a_127) (c_128) ((due (now + d) cl ([2, 3, 9, -1] : List Int)).T)) ∧ (j ≤ (due (now + d) cl ([2, 3, 9, -1] : List Int)).T.length)) (fun j => (due (now + d) cl ([2, 3, 9, -1] : List Int)).T.length - j) 0 ?_ ?_
      · refine ⟨⟨rfl, rfl, rfl, rfl, rfl, rfl, rfl, rfl, rfl, rfl, rfl, rfl, trivial⟩, K0, hb_54, hb_73, ho_8, ho_22, ho_38, hO_86, hO_87, ho_117, ho_130, ?_⟩
        · omega
      clear hb_54 hb_73 ho_8 ho_22 ho_38 hO_86 hO_87 ho_117 ho_130
      clear K0
      rintro j ρ_145 w_143 ⟨hH_144, K0, hb_54, hb_73, ho_8, ho_22, ho_38, hO_86, hO_87, ho_117, ho_130, hj⟩ ih3
      obtain ⟨ρ₀, rfl⟩ := hH_144.ex
      clear hH_144
      refine Run.seq ?_
      refine Run.region ?_
      refine RL.val (x_ltI rfl rfl) ?_
      refine RL.nil ?_
      refine Run.seq ?_
      refine Run.cond rfl (fun hc77 => ?_) (fun hc77 => ?_)
      · try simp only [br] at hc77
        refine Run.skip ?_
        refine Run.seq ?_
        refine Run.block ?_
        refine Run.seq ?_
        refine Run.region ?_
        obtain ⟨b_146, o_147, h, hx, ha_148, hc_149⟩ := ho_130.sl.el (i := j) (by omega)
        refine RL.val (x_idxN Try.underlying35 ty42 rfl rfl ha_148 (by omega)) ?_
        refine RL.val (x_ldV (v := .agg #[.int .i64 ((h).owner), .string ((h).key)]) (y := h) ty42 rfl hc_149 rfl) ?_
        refine RL.st rfl <| St1.alloc ty42 ?_
        intro b_152 w_153 hl_156 hb_155 K_154
        replace hb_155 : Blk w_153 b_152 [.int .i64 (0), .string (⟨#[]⟩)] 42 := hb_155
        have ne_157 : b_51 < b_152 := Nat.lt_of_lt_of_le hb_54.lt hl_156
        have ne_158 : b_70 < b_152 := Nat.lt_of_lt_of_le hb_73.lt hl_156
        have ne_159 : b_146 < b_152 := Nat.lt_of_lt_of_le hc_149.lt hl_156
        have pr_160 : ¬ own a_4 b_152 := fun h => absurd (ho_8.own_lt _ h) (by omega)
        have pr_161 : ¬ own a_18 b_152 := fun h => absurd (ho_22.own_lt _ h) (by omega)
        have pr_162 : ¬ own (some ⟨b_35, 0, none⟩) b_152 := fun h => absurd (ho_38.own_lt _ h) (by omega)
        have pr_163 : ¬ boxS b_1 alb b_152 := fun h => absurd (hO_86.own_lt _ h) (by omega)
        have pr_164 : ¬ boxS b_15 alc b_152 := fun h => absurd (hO_87.own_lt _ h) (by omega)
        have pr_165 : ¬ own (some ⟨b_114, 0, none⟩) b_152 := fun h => absurd (ho_117.own_lt _ h) (by omega)
        have pr_166 : ¬ own a_127 b_152 := fun h => absurd (ho_130.own_lt _ h) (by omega)
        have : w.heap.size ≤ b_152 := Nat.le_trans K0.size hl_156
        clear hl_156
        replace hb_54 := hb_54.ext K_154
        replace hb_73 := hb_73.ext K_154
        replace ho_8 := ho_8.ext K_154
        replace ho_22 := ho_22.ext K_154
        replace ho_38 := ho_38.ext K_154
        replace hO_86 := hO_86.ext K_154
        replace hO_87 := hO_87.ext K_154
        replace ho_117 := ho_117.ext K_154
        replace ho_130 := ho_130.ext K_154
        replace hc_149 := hc_149.ext K_154
        replace K0 := K0.ext K_154
        refine RL.st rfl <| St1.store (v := .agg #[.int .i64 ((h).owner), .string ((h).key)]) ty42 rfl rfl rfl (by simp [Value.cells, Value.oneCell']) hb_155 (by simp) ?_
        intro w_167 hb_155_ K_168
        have hb_155' : Blk w_167 b_152 [.int .i64 ((h).owner), .string ((h).key)] 42 := hb_155_
        clear hb_155_
        replace hb_54 := hb_54.keep K_168 (by simp only [one]; omega)
        replace hb_73 := hb_73.keep K_168 (by simp only [one]; omega)
        replace ho_8 := ho_8.keepO K_168 (fun q_ hq_ eq_ => pr_160 (by simp only [one] at eq_; rw [← eq_]; exact hq_))
        replace ho_22 := ho_22.keepO K_168 (fun q_ hq_ eq_ => pr_161 (by simp only [one] at eq_; rw [← eq_]; exact hq_))
        replace ho_38 := ho_38.keepO K_168 (fun q_ hq_ eq_ => pr_162 (by simp only [one] at eq_; rw [← eq_]; exact hq_))
        replace hO_86 := hO_86.keepO K_168 (fun q_ hq_ eq_ => pr_163 (by simp only [one] at eq_; rw [← eq_]; exact hq_))
        replace hO_87 := hO_87.keepO K_168 (fun q_ hq_ eq_ => pr_164 (by simp only [one] at eq_; rw [← eq_]; exact hq_))
        replace ho_117 := ho_117.keepO K_168 (fun q_ hq_ eq_ => pr_165 (by simp only [one] at eq_; rw [← eq_]; exact hq_))
        replace ho_130 := ho_130.keepO K_168 (fun q_ hq_ eq_ => pr_166 (by simp only [one] at eq_; rw [← eq_]; exact hq_))
        replace hc_149 := hc_149.keep K_168 (fun e => pr_166 (by simp only [one] at e; rw [← e]; exact (own_sub _) _ ha_148))
        replace K0 := K0.new K_168 (fun x hx => by simp only [one] at hx; omega)
        replace hb_155 := hb_155'
        clear hb_155'
        refine RL.nil ?_
        refine Run.seq ?_
        refine Run.region ?_
        refine RL.val (x_fld (o' := 0) Try.underlying42 rfl ty3 rfl rfl rfl) ?_
        refine RL.val (x_ld (v := .int .i64 ((h).owner)) ty3 rfl rfl (hb_155.cl.field (i := 0) rfl)) ?_
        refine RL.val (x_eqI rfl rfl) ?_
        refine RL.nil ?_
        refine Run.cond rfl (fun hc82 => ?_) (fun hc82 => ?_)
        · try simp only [br] at hc82
          exact absurd hc82 (hTo h (mem_of_at hx))
        · try simp only [br] at hc82
          refine Run.skip ?_
          refine Run.inBlock ?_
          refine Run.region ?_
          refine RL.val (x_add rfl rfl (by omega) (by omega)) ?_
          refine RL.val (x_moveI rfl) ?_
          refine RL.nil ?_
          refine ih3 (j + 1) _ _ ?_ (by omega)
          refine ⟨⟨rfl, rfl, rfl, rfl, rfl, rfl, rfl, rfl, rfl, rfl, rfl, rfl, trivial⟩, K0, hb_54, hb_73, ho_8, ho_22, ho_38, hO_86, hO_87, ho_117, ho_130, ?_⟩
          · omega
      · try simp only [br] at hc77
        refine Run.exit rfl ?_
        refine Run.seq ?_
        have hT5 : (due (now + d) bl [1]).T.length ≤ 4 := due_T4 (now + d) bl [1]
        refine Run.region ?_
        refine RL.val (x_moveP rfl) ?_
        refine RL.val (x_moveI rfl) ?_
        refine RL.st rfl <| St1.buildSlice ([1] : List Int) Try.underlying22 ty3 rfl rfl (by first | decide | (simp [Enc.size])) ?_
        intro b_169 w_170 hl_173 ho_172 K_171
        have pr_174 : ¬ own (some ⟨b_169, 0, none⟩) b_51 := notNew (ge_new hl_173) hb_54.lt
        have pr_175 : ¬ own (some ⟨b_169, 0, none⟩) b_70 := notNew (ge_new hl_173) hb_73.lt
        have pr_176 : ∀ q_, own (some ⟨b_169, 0, none⟩) q_ → ¬ own a_4 q_ := apartNew (ge_new hl_173) ho_8.own_lt
        have pr_177 : ∀ q_, own (some ⟨b_169, 0, none⟩) q_ → ¬ own a_18 q_ := apartNew (ge_new hl_173) ho_22.own_lt
        have pr_178 : ∀ q_, own (some ⟨b_169, 0, none⟩) q_ → ¬ own (some ⟨b_35, 0, none⟩) q_ := apartNew (ge_new hl_173) ho_38.own_lt
        have pr_179 : ∀ q_, own (some ⟨b_169, 0, none⟩) q_ → ¬ boxS b_1 alb q_ := apartNew (ge_new hl_173) hO_86.own_lt
        have pr_180 : ∀ q_, own (some ⟨b_169, 0, none⟩) q_ → ¬ boxS b_15 alc q_ := apartNew (ge_new hl_173) hO_87.own_lt
        have pr_181 : ∀ q_, own (some ⟨b_169, 0, none⟩) q_ → ¬ own (some ⟨b_114, 0, none⟩) q_ := apartNew (ge_new hl_173) ho_117.own_lt
        have pr_182 : ∀ q_, own (some ⟨b_169, 0, none⟩) q_ → ¬ own a_127 q_ := apartNew (ge_new hl_173) ho_130.own_lt
        have pg_183 : ∀ q_, own (some ⟨b_169, 0, none⟩) q_ → w.heap.size ≤ q_ := fun q_ h => Nat.le_trans K0.size ((ge_new hl_173) q_ h)
        clear hl_173
        replace hb_54 := hb_54.ext K_171
        replace hb_73 := hb_73.ext K_171
        replace ho_8 := ho_8.ext K_171
        replace ho_22 := ho_22.ext K_171
        replace ho_38 := ho_38.ext K_171
        replace hO_86 := hO_86.ext K_171
        replace hO_87 := hO_87.ext K_171
        replace ho_117 := ho_117.ext K_171
        replace ho_130 := ho_130.ext K_171
        replace K0 := K0.ext K_171
        refine RL.st rfl <| St1.call (vals := [.pointer (some ⟨b_1, 0, none⟩), .int .i64 (now + d), .slice (some ⟨b_169, 0, none⟩) (([1] : List Int).length) (([1] : List Int).length)]) en18 rfl (dueB _ _ _ bl now (now + d) _ ([1] : List Int) _ _ hO_86 (by first | omega | (rw [due_Ln]; omega)) ho_172.sl (fun x hx hb => (fun q_ h1 h2 => pr_179 q_ h2 h1) _ hb ⟨x, hx, rfl⟩) (by simp) (by first | omega | (rw [due_Ln]; omega)) (hPb) (by omega) (by omega) (by omega)) ?_
        rintro _ w_186 ⟨a_184, c_185, rfl, ho_187, hg_188, hB_189, K_190⟩
        rw [show max now (now + d) = (now + d) by omega] at ho_187 hB_189 ⊢
        have pr_191 : ¬ own a_184 b_51 := notNew hg_188 hb_54.lt
        have pr_192 : ¬ own a_184 b_70 := notNew hg_188 hb_73.lt
        have pr_193 : ∀ q_, own a_184 q_ → ¬ own a_4 q_ := apartNew hg_188 ho_8.own_lt
        have pr_194 : ∀ q_, own a_184 q_ → ¬ own a_18 q_ := apartNew hg_188 ho_22.own_lt
        have pr_195 : ∀ q_, own a_184 q_ → ¬ own (some ⟨b_35, 0, none⟩) q_ := apartNew hg_188 ho_38.own_lt
        have pr_196 : ∀ q_, own a_184 q_ → ¬ boxS b_1 alb q_ := apartNew hg_188 hO_86.own_lt
        have pr_197 : ∀ q_, own a_184 q_ → ¬ boxS b_15 alc q_ := apartNew hg_188 hO_87.own_lt
        have pr_198 : ∀ q_, own a_184 q_ → ¬ own (some ⟨b_114, 0, none⟩) q_ := apartNew hg_188 ho_117.own_lt
        have pr_199 : ∀ q_, own a_184 q_ → ¬ own a_127 q_ := apartNew hg_188 ho_130.own_lt
        have pr_200 : ∀ q_, own a_184 q_ → ¬ own (some ⟨b_169, 0, none⟩) q_ := apartNew hg_188 ho_172.own_lt
        have pg_201 : ∀ q_, own a_184 q_ → w.heap.size ≤ q_ := fun q_ h => Nat.le_trans K0.size (hg_188 q_ h)
        clear hg_188
        replace hb_54 := hb_54.keep K_190 pr_88
        replace hb_73 := hb_73.keep K_190 pr_89
        replace ho_8 := ho_8.keepO K_190 (fun q_ h1 h2 => pr_90 q_ h2 h1)
        replace ho_22 := ho_22.keepO K_190 (fun q_ h1 h2 => pr_91 q_ h2 h1)
        replace ho_38 := ho_38.keepO K_190 (fun q_ h1 h2 => pr_92 q_ h2 h1)
        replace hO_87 := hO_87.keepO K_190 (fun q_ h1 h2 => pr_93 q_ h2 h1)
        replace ho_117 := ho_117.keepO K_190 pr_124
        replace ho_130 := ho_130.keepO K_190 pr_139
        replace ho_172 := ho_172.keepO K_190 pr_179
        replace K0 := K0.new K_190 pr_94
        replace hO_86 := hB_189
        clear hB_189
        refine RL.val (x_moveP rfl) ?_
        refine RL.val (x_moveI rfl) ?_
        refine RL.st rfl <| St1.buildSlice ([1] : List Int) Try.underlying22 ty3 rfl rfl (by first | decide | (simp [Enc.size])) ?_
        intro b_202 w_203 hl_206 ho_205 K_204
        have pr_207 : ¬ own (some ⟨b_202, 0, none⟩) b_51 := notNew (ge_new hl_206) hb_54.lt
        have pr_208 : ¬ own (some ⟨b_202, 0, none⟩) b_70 := notNew (ge_new hl_206) hb_73.lt
        have pr_209 : ∀ q_, own (some ⟨b_202, 0, none⟩) q_ → ¬ own a_4 q_ := apartNew (ge_new hl_206) ho_8.own_lt
        have pr_210 : ∀ q_, own (some ⟨b_202, 0, none⟩) q_ → ¬ own a_18 q_ := apartNew (ge_new hl_206) ho_22.own_lt
        have pr_211 : ∀ q_, own (some ⟨b_202, 0, none⟩) q_ → ¬ own (some ⟨b_35, 0, none⟩) q_ := apartNew (ge_new hl_206) ho_38.own_lt
        have pr_212 : ∀ q_, own (some ⟨b_202, 0, none⟩) q_ → ¬ boxS b_1 alb q_ := apartNew (ge_new hl_206) hO_86.own_lt
        have pr_213 : ∀ q_, own (some ⟨b_202, 0, none⟩) q_ → ¬ boxS b_15 alc q_ := apartNew (ge_new hl_206) hO_87.own_lt
        have pr_214 : ∀ q_, own (some ⟨b_202, 0, none⟩) q_ → ¬ own (some ⟨b_114, 0, none⟩) q_ := apartNew (ge_new hl_206) ho_117.own_lt
        have pr_215 : ∀ q_, own (some ⟨b_202, 0, none⟩) q_ → ¬ own a_127 q_ := apartNew (ge_new hl_206) ho_130.own_lt
        have pr_216 : ∀ q_, own (some ⟨b_202, 0, none⟩) q_ → ¬ own (some ⟨b_169, 0, none⟩) q_ := apartNew (ge_new hl_206) ho_172.own_lt
        have pr_217 : ∀ q_, own (some ⟨b_202, 0, none⟩) q_ → ¬ own a_184 q_ := apartNew (ge_new hl_206) ho_187.own_lt
        have pg_218 : ∀ q_, own (some ⟨b_202, 0, none⟩) q_ → w.heap.size ≤ q_ := fun q_ h => Nat.le_trans K0.size ((ge_new hl_206) q_ h)
        clear hl_206
        replace hb_54 := hb_54.ext K_204
        replace hb_73 := hb_73.ext K_204
        replace ho_8 := ho_8.ext K_204
        replace ho_22 := ho_22.ext K_204
        replace ho_38 := ho_38.ext K_204
        replace hO_86 := hO_86.ext K_204
        replace hO_87 := hO_87.ext K_204
        replace ho_117 := ho_117.ext K_204
        replace ho_130 := ho_130.ext K_204
        replace ho_172 := ho_172.ext K_204
        replace ho_187 := ho_187.ext K_204
        replace K0 := K0.ext K_204
        refine RL.st rfl <| St1.call (vals := [.pointer (some ⟨b_15, 0, none⟩), .int .i64 (now + d), .slice (some ⟨b_202, 0, none⟩) (([1] : List Int).length) (([1] : List Int).length)]) en18 rfl (dueB _ _ _ ((due (now + d) cl ([2, 3, 9, -1] : List Int)).L) (now + d) (now + d) _ ([1] : List Int) _ _ hO_87 (by first | omega | (rw [due_Ln]; omega)) ho_205.sl (fun x hx hb => (fun q_ h1 h2 => pr_213 q_ h2 h1) _ hb ⟨x, hx, rfl⟩) (by simp) (by first | omega | (rw [due_Ln]; omega)) (hpc2) (by omega) (by omega) (by omega)) ?_
        rintro _ w_221 ⟨a_219, c_220, rfl, ho_222, hg_223, hB_224, K_225⟩
        rw [show max (now + d) (now + d) = (now + d) by omega] at ho_222 hB_224 ⊢
        have pr_226 : ¬ own a_219 b_51 := notNew hg_223 hb_54.lt
        have pr_227 : ¬ own a_219 b_70 := notNew hg_223 hb_73.lt
        have pr_228 : ∀ q_, own a_219 q_ → ¬ own a_4 q_ := apartNew hg_223 ho_8.own_lt
        have pr_229 : ∀ q_, own a_219 q_ → ¬ own a_18 q_ := apartNew hg_223 ho_22.own_lt
        have pr_230 : ∀ q_, own a_219 q_ → ¬ own (some ⟨b_35, 0, none⟩) q_ := apartNew hg_223 ho_38.own_lt
        have pr_231 : ∀ q_, own a_219 q_ → ¬ boxS b_1 alb q_ := apartNew hg_223 hO_86.own_lt
        have pr_232 : ∀ q_, own a_219 q_ → ¬ boxS b_15 alc q_ := apartNew hg_223 hO_87.own_lt
        have pr_233 : ∀ q_, own a_219 q_ → ¬ own (some ⟨b_114, 0, none⟩) q_ := apartNew hg_223 ho_117.own_lt
        have pr_234 : ∀ q_, own a_219 q_ → ¬ own a_127 q_ := apartNew hg_223 ho_130.own_lt
        have pr_235 : ∀ q_, own a_219 q_ → ¬ own (some ⟨b_169, 0, none⟩) q_ := apartNew hg_223 ho_172.own_lt
        have pr_236 : ∀ q_, own a_219 q_ → ¬ own a_184 q_ := apartNew hg_223 ho_187.own_lt
        have pr_237 : ∀ q_, own a_219 q_ → ¬ own (some ⟨b_202, 0, none⟩) q_ := apartNew hg_223 ho_205.own_lt
        have pg_238 : ∀ q_, own a_219 q_ → w.heap.size ≤ q_ := fun q_ h => Nat.le_trans K0.size (hg_223 q_ h)
        clear hg_223
        replace hb_54 := hb_54.keep K_225 pr_95
        replace hb_73 := hb_73.keep K_225 pr_96
        replace ho_8 := ho_8.keepO K_225 (fun q_ h1 h2 => pr_97 q_ h2 h1)
        replace ho_22 := ho_22.keepO K_225 (fun q_ h1 h2 => pr_98 q_ h2 h1)
        replace ho_38 := ho_38.keepO K_225 (fun q_ h1 h2 => pr_99 q_ h2 h1)
        replace hO_86 := hO_86.keepO K_225 pr_93
        replace ho_117 := ho_117.keepO K_225 pr_125
        replace ho_130 := ho_130.keepO K_225 pr_140
        replace ho_172 := ho_172.keepO K_225 pr_180
        replace ho_187 := ho_187.keepO K_225 pr_197
        replace ho_205 := ho_205.keepO K_225 pr_213
        replace K0 := K0.new K_225 pr_100
        replace hO_87 := hB_224
        clear hB_224
        refine RL.st rfl <| St1.call (vals := [.slice (a_184) (((due (now + d) bl ([1] : List Int)).T).length) (c_185), .slice (a_219) (((due (now + d) ((due (now + d) cl ([2, 3, 9, -1] : List Int)).L) ([1] : List Int)).T).length) (c_220)]) en20 rfl (equal_hint _ _ _ _ _ _ _ ho_187.sl ho_222.sl (by omega)) ?_
        rintro _ w_239 ⟨rfl, K_240⟩
        replace hb_54 := hb_54.ext K_240
        replace hb_73 := hb_73.ext K_240
        replace ho_8 := ho_8.ext K_240
        replace ho_22 := ho_22.ext K_240
        replace ho_38 := ho_38.ext K_240
        replace hO_86 := hO_86.ext K_240
        replace hO_87 := hO_87.ext K_240
        replace ho_117 := ho_117.ext K_240
        replace ho_130 := ho_130.ext K_240
        replace ho_172 := ho_172.ext K_240
        replace ho_187 := ho_187.ext K_240
        replace ho_205 := ho_205.ext K_240
        replace ho_222 := ho_222.ext K_240
        replace K0 := K0.ext K_240
        refine RL.val (litF (x_not rfl) (by rw [decide_eq_true hTs]; rfl)) ?_
        refine RL.nil ?_
        refine Run.condF rfl ?_
        refine Run.skip ?_
        refine Run.inBlock ?_
        refine Run.region ?_
        refine RL.val (x_add rfl rfl (by omega) (by omega)) ?_
        refine RL.val (x_moveI rfl) ?_
        refine RL.nil ?_
        refine ih2 (i + 1) _ _ ?_ (by omega)
        refine ⟨_, _, _, _, _, _, _, ⟨rfl, rfl, rfl, rfl, rfl, rfl, rfl, rfl, trivial⟩, K0, hb_54, hb_73, ho_8, ho_22, ho_38, hO_86, hO_87, pr_88, pr_89, pr_90, pr_91, pr_92, pr_93, pr_94, pr_95, pr_96, pr_97, pr_98, pr_99, pr_100, ?_, ?_, ?_, ?_, ?_, ?_, ?_⟩
        · omega
        · omega
        · exact due_past hpb
        · exact due_past hpc2
        · exact hBs
        · rw [due_Ln]; omega
        · rw [due_Ln, due_Ln]; omega
  · try simp only [br] at hc59
    refine Run.exit rfl ?_
    refine Run.seq ?_
    refine Run.region ?_
    refine RL.val (x_moveSl rfl) ?_
    refine RL.val (x_moveSl rfl) ?_
    refine RL.st rfl <| St1.call (vals := [.slice (a_4) ((puts 1 keys).length) (c_5), .slice (a_18) ((puts 1 keys).length) (c_19)]) en20 rfl (equal_hint _ _ _ _ _ _ _ ho_8.sl ho_22.sl (by omega)) ?_
    rintro _ w_241 ⟨rfl, K_242⟩
    replace hb_54 := hb_54.ext K_242
    replace hb_73 := hb_73.ext K_242
    replace ho_8 := ho_8.ext K_242
    replace ho_22 := ho_22.ext K_242
    replace ho_38 := ho_38.ext K_242
    replace hO_86 := hO_86.ext K_242
    replace hO_87 := hO_87.ext K_242
    replace K0 := K0.ext K_242
    skip
    refine RL.val (litT (x_moveB rfl) (decide_eq_true rfl)) ?_
    refine RL.gst (wantedT1 rfl rfl rfl rfl) <| St1.val (x_moveP rfl) ?_
    refine RL.gst (wantedT1 rfl rfl rfl rfl) <| St1.call (vals := [.pointer (some ⟨b_1, 0, none⟩), .int .i64 (1)]) en21 rfl (countP16 _ _ _ bl now 1 _ hO_86.blk hO_86.own.sl (by first | omega | decide)) ?_
    rintro _ w_243 ⟨rfl, K_244⟩
    replace hb_54 := hb_54.ext K_244
    replace hb_73 := hb_73.ext K_244
    replace ho_8 := ho_8.ext K_244
    replace ho_22 := ho_22.ext K_244
    replace ho_38 := ho_38.ext K_244
    replace hO_86 := hO_86.ext K_244
    replace hO_87 := hO_87.ext K_244
    replace K0 := K0.ext K_244
    refine RL.gst (wantedT1 rfl rfl rfl rfl) <| St1.val (x_moveP rfl) ?_
    refine RL.gst (wantedT1 rfl rfl rfl rfl) <| St1.call (vals := [.pointer (some ⟨b_15, 0, none⟩), .int .i64 (1)]) en21 rfl (countP16 _ _ _ cl now 1 _ hO_87.blk hO_87.own.sl (by first | omega | decide)) ?_
    rintro _ w_245 ⟨rfl, K_246⟩
    replace hb_54 := hb_54.ext K_246
    replace hb_73 := hb_73.ext K_246
    replace ho_8 := ho_8.ext K_246
    replace ho_22 := ho_22.ext K_246
    replace ho_38 := ho_38.ext K_246
    replace hO_86 := hO_86.ext K_246
    replace hO_87 := hO_87.ext K_246
    replace K0 := K0.ext K_246
    refine RL.gst (wantedT1 rfl rfl rfl rfl) <| St1.val (x_eqI rfl rfl) ?_
    refine RL.val (x_andT rfl rfl rfl) ?_
    refine RL.val (x_assignB rfl) ?_
    refine RL.nil ?_
    refine Run.ret1 (v := .bool ((countB bl 1) == (countB cl 1))) Try.func6 rfl rfl ?_
    exact ⟨_, rfl, by rw [hBe.count]; simp, K0⟩

theorem law_apart (ak : Option Addr) (keys : List ByteArray) (ck : Nat) (at0 : Option Addr) (times : List Int) (ct0 : Nat) (w : World) (h0 : SlOf w ak keys) (h1 : SlOf w at0 times) (hl0 : keys.length ≤ 1048576) (hl1 : times.length ≤ 1048576) (hkz : ∀ k ∈ keys, k.size ≤ 4294967295) :
    Calls Try.prog 6 #[.slice ak keys.length ck, .slice at0 times.length ct0] w (Ret fun v w' => v = .bool true ∧ Ext w w') := by
  by_cases hlt : (puts 1 keys).length < 250
  · exact law_apartL ak keys ck at0 times ct0 w h0 h1 hl0 hl1 hkz hlt
  · exact law_apartG ak keys ck at0 times ct0 w h0 h1 hl0 hl1 hkz hlt

end Go.Proofs.Ytlediffjclploaa
