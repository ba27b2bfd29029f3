/-
  Layer 16's laws: walks.
-/
import Derived.Test.YtlediffjclploaaRows
import Derived.Test.YtlediffjclploaaHb
namespace Go.Proofs.Ytlediffjclploaa
attribute [local irreducible] St1 RL RA RT RT1 Run

open Ha
/-! ### what put keeps -/
def pStep (n : Int) (l : List Hint) (k : ByteArray) : List Hint := if (isKey k && !(l.any ((⟨n, k⟩ : Hint) == ·))) = true then l ++ [⟨n, k⟩] else l
def putsI (n : Int) (keys : List ByteArray) (i : Nat) : List Hint := ((keys.take i).take 256).foldl (pStep n) []
def puts (n : Int) (keys : List ByteArray) : List Hint := putsI n keys keys.length
def mk16 (l : List Hint) : List KeptM := l.map fun h => ⟨h, -1⟩
theorem putsI_zero (n : Int) (keys : List ByteArray) : putsI n keys 0 = [] := by simp [putsI]
theorem putsI_late {n : Int} {keys : List ByteArray} {i : Nat} (h : 255 < i) : putsI n keys (i + 1) = putsI n keys i := by
  unfold putsI
  rw [List.take_take, List.take_take, Nat.min_eq_left (by omega), Nat.min_eq_left (by omega)]
theorem putsI_step {n : Int} {keys : List ByteArray} {i : Nat} {k : ByteArray} (h : ¬ 255 < i) (hk : keys[i]? = some k) : putsI n keys (i + 1) = pStep n (putsI n keys i) k := by
  obtain ⟨hi, rfl⟩ := List.getElem?_eq_some_iff.1 hk
  unfold putsI
  rw [List.take_of_length_le (l := keys.take (i + 1)) (by simp; omega), List.take_of_length_le (l := keys.take i) (by simp; omega), List.take_succ_eq_append_getElem hi, List.foldl_append, List.foldl_cons, List.foldl_nil]
theorem putsI_no {n : Int} {keys : List ByteArray} {i : Nat} {k : ByteArray} (hk : keys[i]? = some k) (h : (255 < (i : Int) ∨ isKey k = false) ∨ (putsI n keys i).any ((⟨n, k⟩ : Hint) == ·) = true) : putsI n keys (i + 1) = putsI n keys i := by
  by_cases h1 : 255 < i
  · exact putsI_late h1
  · rw [putsI_step h1 hk, pStep, if_neg]
    rcases h with (h | h) | h
    · omega
    · simp [h]
    · simp only [h]; simp
theorem putsI_yes {n : Int} {keys : List ByteArray} {i : Nat} {k : ByteArray} (hk : keys[i]? = some k) (h : ((i : Int) ≤ 255 ∧ isKey k = true) ∧ (putsI n keys i).any ((⟨n, k⟩ : Hint) == ·) = false) : putsI n keys (i + 1) = putsI n keys i ++ [⟨n, k⟩] := by
  rw [putsI_step (by omega) hk, pStep, if_pos (by simp only [h.1.2, h.2]; rfl)]
theorem putsI_len (n : Int) (keys : List ByteArray) : ∀ i, i ≤ keys.length → (putsI n keys i).length ≤ i := by
  intro i
  induction i with
  | zero => intro _; simp [putsI]
  | succ i ih =>
    intro hi
    have h1 := ih (by omega)
    by_cases h2 : 255 < i
    · rw [putsI_late h2]; omega
    · rw [putsI_step h2 (k := keys[i]'(by omega)) (by simp), pStep]
      split
      · simp; omega
      · omega
theorem mk16_any (l : List Hint) (h : Hint) : (mk16 l).any (isH h) = l.any (h == ·) := by
  unfold mk16
  rw [List.any_map]
  congr 1
  funext x
  simp only [Function.comp, isH]
  rw [Bool.eq_iff_iff]; simp only [decide_eq_true_eq, beq_iff_eq]; exact ⟨fun e => e.symm, fun e => e.symm⟩
theorem mk16_len (l : List Hint) : (mk16 l).length = l.length := by simp [mk16]
theorem mk16_put {n : Int} {l : List Hint} {k : ByteArray} (h0 : 0 ≤ n ∧ n < 8) (hk : isKey k = true) (ha : l.any ((⟨n, k⟩ : Hint) == ·) = false) (hl : ¬ 256 ≤ l.length) :
    putE (mk16 l) ⟨n, k⟩ = 0 ∧ putL (mk16 l) ⟨n, k⟩ = mk16 (l ++ [⟨n, k⟩]) := by
  have h1 : hE ⟨n, k⟩ = 0 := hE0 h0 hk
  have h2 : NoB (isH ⟨n, k⟩) (mk16 l) (mk16 l).length := by
    refine findI_none (z := -1) ?_ (by omega)
    have h3 := findI_ge (isH ⟨n, k⟩) (mk16 l)
    rw [mk16_any, ha] at h3
    unfold findI at h3 ⊢
    split
    · rename_i i hi; rw [hi] at h3; simp at h3
    · rfl
  have h4 : ¬ 256 ≤ (mk16 l).length := by rw [mk16_len]; exact hl
  exact ⟨putE_new h1 h2 h4, by rw [putL_new h1 h2 h4]; simp [mk16]⟩
theorem boxS_new {N b : Nat} (h : N ≤ b) : ∀ q, boxS b none q → N ≤ q := by
  rintro q (rfl | hq)
  · exact h
  · exact absurd hq (own_none q)

def awH : Hint := ⟨1, ⟨#[97]⟩⟩
def awL : List KeptM := [⟨awH, -1⟩]
theorem aw_key : isKey ⟨#[97]⟩ = true := by decide
theorem aw_put : putE [] ⟨1, ⟨#[97]⟩⟩ = 0 ∧ putL [] ⟨1, ⟨#[97]⟩⟩ = awL := ⟨by decide, rfl⟩
theorem aw_due : (due (max 0 0) awL [1]).T = [awH] := rfl
theorem aw_hasE : awL.any (isH awH) = true := by decide
theorem aw_cntE : countB awL 1 = 1 := by decide
theorem aw_past : Past awL 0 := by intro k hk; simp [awL] at hk; subst hk; decide
theorem aw_has {w : World} {b : Nat} {al : Option Addr} {cl : Nat} (hB : BoxAt w b al cl awL 0) : Calls Try.prog 23 #[.pointer (some ⟨b, 0, none⟩), .agg #[.int .i64 1, .string ⟨#[97]⟩]] w (Ret fun v w' => v = .bool true ∧ Ext w w') := by
  have h := hasB b al cl awL 0 awH w hB.blk hB.own.sl (by decide)
  rw [aw_hasE] at h
  exact h
theorem aw_cnt {w : World} {b : Nat} {al : Option Addr} {cl : Nat} (hB : BoxAt w b al cl awL 0) : Calls Try.prog 21 #[.pointer (some ⟨b, 0, none⟩), .int .i64 1] w (Ret fun v w' => v = .int .i64 1 ∧ Ext w w') := by
  have h := countP16 b al cl awL 0 1 w hB.blk hB.own.sl (by decide)
  rw [aw_cntE] at h
  exact h
theorem aw_eq {w : World} {a d : Option Addr} {c e : Nat} (h1 : SlOf w a [awH]) (h2 : SlOf w d [awH]) : Calls Try.prog 20 #[.slice a 1 c, .slice d 1 e] w (Ret fun v w' => v = .bool true ∧ Ext w w') := by
  have h := equal_hint a [awH] c d [awH] e w h1 h2 (by decide)
  rw [decide_eq_true rfl] at h
  exact h

theorem en18 : Enters Try.prog 18 := enters_of Try.func18 rfl (by kernel_rfl)
theorem en19 : Enters Try.prog 19 := enters_of Try.func19 rfl (by kernel_rfl)
theorem en20 : Enters Try.prog 20 := enters_of Try.func20 rfl (by kernel_rfl)
theorem en21 : Enters Try.prog 21 := enters_of Try.func21 rfl (by kernel_rfl)
theorem en23 : Enters Try.prog 23 := enters_of Try.func23 rfl (by kernel_rfl)
theorem en25 : Enters Try.prog 25 := enters_of Try.func25 rfl (by kernel_rfl)
theorem en40 : Enters Try.prog 40 := enters_of Try.func40 rfl (by kernel_rfl)
theorem en41 : Enters Try.prog 41 := enters_of Try.func41 rfl (by kernel_rfl)

set_option maxHeartbeats 4000000 in
theorem put16 (n : Int) (a : Option Addr) (keys : List ByteArray) (c : Nat) (w : World) (hs : SlOf w a keys) (hl : keys.length ≤ 1048576) (hn : 0 ≤ n ∧ n < 8) (hkz : ∀ k ∈ keys, k.size ≤ 4294967295) :
    Calls Try.prog 16 #[.int .i64 (n), .slice (a) (keys.length) (c)] w (Ret (fun v w' => ∃ b al cl a' c', v = .tuple #[.pointer (some ⟨b, 0, none⟩), .slice a' (puts n keys).length c'] ∧ BoxAt w' b al cl (mk16 (puts n keys)) 0 ∧ OwnSl w' 42 a' c' (puts n keys) ∧ (∀ x, boxS b al x → w.heap.size ≤ x) ∧ (∀ x, own a' x → w.heap.size ≤ x) ∧ (∀ x, boxS b al x → ¬ own a' x) ∧ Ext w w')) := by
  refine calls_run (n := 45) Try.func16 rfl rfl rfl ?_
  refine Run.seq ?_
  refine Run.region ?_
  refine RL.val (x_assignP rfl) ?_
  refine RL.val (x_assignSl rfl) ?_
  refine RL.nil ?_
  refine Run.seq ?_
  refine Run.region ?_
  refine RL.st rfl <| St1.call (vals := []) en25 rfl (newB _) ?_
  rintro _ w_2 ⟨b_1, rfl, hB_3, hg_4, K_5⟩
  have pg_6 : ∀ q_, boxS b_1 none q_ → w.heap.size ≤ q_ := fun q_ h => Nat.le_trans (Nat.le_refl _) ((boxS_new hg_4) q_ h)
  clear hg_4
  have K0 := (K_5 : Ext w _)
  refine RL.val (x_assignP rfl) ?_
  refine RL.nil ?_
  refine Run.seq ?_
  refine Run.region ?_
  refine RL.val (x_assignSl rfl) ?_
  refine RL.nil ?_
  refine Run.seq ?_
  refine Run.seq ?_
  refine Run.region ?_
  refine RL.val (x_moveSl rfl) ?_
  refine RL.val (x_lenSl Try.underlying33 rfl) ?_
  refine RL.val (x_moveI rfl) ?_
  refine RL.nil ?_
  refine Run.block ?_
  refine Run.loop (ι := Nat) (fun i ρ' w' => ∃ alb : Option Addr, ∃ clb : Nat, ∃ ah : Option Addr, ∃ ch : Nat, Holds ρ' [(0, .int .i64 (n)), (6, .pointer (some ⟨b_1, 0, none⟩)), (7, .slice (ah) ((putsI n keys i).length) (ch)), (12, .slice (a) (keys.length) (c)), (13, .int .i64 (((keys.length : Nat) : Int))), (14, .int .i64 (((i : Nat) : Int)))] ∧ Ext w w' ∧ (BoxAt w' b_1 alb clb (mk16 (putsI n keys i)) 0) ∧ (OwnSl w' 42 ah ch (putsI n keys i)) ∧ (∀ q_, boxS b_1 alb q_ → ¬ own ah q_) ∧ (∀ q_, boxS b_1 alb q_ → w.heap.size ≤ q_) ∧ (∀ q_, own ah q_ → w.heap.size ≤ q_) ∧ (i ≤ keys.length)) (fun i => keys.length - i) 0 ?_ ?_
  · rw [putsI_zero]
    have ho_14 := OwnSl.nil (α := Hint) w_2 42
    refine ⟨_, _, _, _, ⟨rfl, rfl, rfl, rfl, rfl, rfl, trivial⟩, K0, hB_3, ho_14, (fun q_ h1 h2 => (fun q_ h1 _ => own_none q_ h1) q_ h2 h1), pg_6, (fun q_ h1 => absurd h1 (own_none q_)), ?_⟩
    · omega
  clear hB_3
  clear K0
  rintro i ρ_15 w_7 ⟨alb, clb, ah, ch, hH_8, K0, hO_9, ho_10, pr_11, pr_12, pr_13, hi⟩ ih1
  obtain ⟨ρ₀, rfl⟩ := hH_8.ex
  clear hH_8
  refine Run.seq ?_
  refine Run.region ?_
  refine RL.val (x_ltI rfl rfl) ?_
  refine RL.nil ?_
  refine Run.seq ?_
  refine Run.cond rfl (fun hc15 => ?_) (fun hc15 => ?_)
  · try simp only [br] at hc15
    refine Run.skip ?_
    refine Run.seq ?_
    refine Run.block ?_
    refine Run.seq ?_
    refine Run.region ?_
    refine RL.val (x_moveI rfl) ?_
    obtain ⟨b_16, o_17, k, hx, ha_18, hc_19⟩ := hs.el (i := i) (by omega)
    have hc_19_lt := hc_19.lt
    replace hc_19 := hc_19.ext K0
    refine RL.val (x_idxN Try.underlying33 ty9 rfl rfl ha_18 (by omega)) ?_
    refine RL.val (x_ldV (v := .string (k)) (y := k) ty9 rfl hc_19 rfl) ?_
    refine RL.val (x_assignI rfl) ?_
    refine RL.val (x_assignS rfl) ?_
    refine RL.nil ?_
    have hkk := hkz k (mem_of_at hx)
    have hln := putsI_len n keys i (by omega)
    have hln2 := mk16_len (putsI n keys i)
    refine Run.seq ?_
    refine Run.region ?_
    refine RL.val (x_moveI rfl) ?_
    refine RL.val (x_moveS rfl) ?_
    refine RL.val (x_build (cells := #[.int .i64 (n), .string (k)]) (by kernel_rfl)) ?_
    refine RL.st rfl <| St1.alloc ty42 ?_
    intro b_22 w_23 hl_26 hb_25 K_24
    replace hb_25 : Blk w_23 b_22 [.int .i64 (0), .string (⟨#[]⟩)] 42 := hb_25
    have pr_27 : ¬ boxS b_1 alb b_22 := fun h => absurd (hO_9.own_lt _ h) (by omega)
    have pr_28 : ¬ own ah b_22 := fun h => absurd (ho_10.own_lt _ h) (by omega)
    have : w.heap.size ≤ b_22 := Nat.le_trans K0.size hl_26
    clear hl_26
    replace hO_9 := hO_9.ext K_24
    replace ho_10 := ho_10.ext K_24
    replace K0 := K0.ext K_24
    refine RL.st rfl <| St1.store (v := .agg #[.int .i64 (n), .string (k)]) ty42 rfl rfl rfl (by simp [Value.cells, Value.oneCell']) hb_25 (by simp) ?_
    intro w_29 hb_25_ K_30
    have hb_25' : Blk w_29 b_22 [.int .i64 (n), .string (k)] 42 := hb_25_
    clear hb_25_
    replace hO_9 := hO_9.keepO K_30 (fun q_ hq_ eq_ => pr_27 (by simp only [one] at eq_; rw [← eq_]; exact hq_))
    replace ho_10 := ho_10.keepO K_30 (fun q_ hq_ eq_ => pr_28 (by simp only [one] at eq_; rw [← eq_]; exact hq_))
    replace K0 := K0.new K_30 (fun x hx => by simp only [one] at hx; omega)
    replace hb_25 := hb_25'
    clear hb_25'
    refine RL.nil ?_
    refine Run.seq ?_
    refine Run.seq ?_
    refine Run.region ?_
    refine RL.val (x_moveI rfl) ?_
    refine RL.val (x_gtI rfl rfl) ?_
    refine RL.val (x_moveB rfl) ?_
    refine RL.gval (wantedF rfl rfl rfl rfl) (fun hg => (x_moveS rfl)) ?_
    refine RL.gcall (vals := [.string (k)]) (wantedF rfl rfl rfl rfl) en40 (fun hg => (mcons (gvr hg) mnil)) (fun hg => (refIsKey _ _ (by omega))) ?_
    intro w_31 K_32
    replace hO_9 := hO_9.ext K_32
    replace ho_10 := ho_10.ext K_32
    replace hb_25 := hb_25.ext K_32
    replace K0 := K0.ext K_32
    refine RL.gval (wantedF rfl rfl rfl rfl) (fun hg => (x_not (gvr hg))) ?_
    refine RL.val (x_or rfl rfl rfl) ?_
    refine RL.val (x_moveB rfl) ?_
    refine RL.gval (wantedF rfl rfl rfl rfl) (fun hg => (x_moveSl rfl)) ?_
    refine RL.gval (wantedF rfl rfl rfl rfl) (fun hg => (x_lds (cs := #[.int .i64 (n), .string (k)]) ty42 rfl rfl (hb_25.cl.drop 0 2))) ?_
    refine RL.gcall (vals := [.slice (ah) ((putsI n keys i).length) (ch), .agg #[.int .i64 (n), .string (k)]]) (wantedF rfl rfl rfl rfl) en41 (fun hg => (mcons (gvr hg) (mcons (gvr hg) mnil))) (fun hg => (contains_hint _ _ _ (⟨n, k⟩ : Hint) _ ho_10.sl (by omega))) ?_
    intro w_33 K_34
    replace hO_9 := hO_9.ext K_34
    replace ho_10 := ho_10.ext K_34
    replace hb_25 := hb_25.ext K_34
    replace K0 := K0.ext K_34
    refine RL.val (x_or rfl rfl rfl) ?_
    refine RL.nil ?_
    refine Run.cond rfl (fun hc33 => ?_) (fun hc33 => ?_)
    · try simp only [br] at hc33
      refine Run.exit rfl ?_
      refine Run.region ?_
      refine RL.val (x_add rfl rfl (by omega) (by omega)) ?_
      refine RL.val (x_moveI rfl) ?_
      refine RL.nil ?_
      have e := putsI_no (n := n) hx hc33
      refine ih1 (i + 1) _ _ ?_ (by omega)
      rw [e]
      refine ⟨_, _, _, _, ⟨rfl, rfl, rfl, rfl, rfl, rfl, trivial⟩, K0, hO_9, ho_10, pr_11, pr_12, pr_13, ?_⟩
      · omega
    · try simp only [br] at hc33
      refine Run.skip ?_
      refine Run.seq ?_
      refine Run.seq ?_
      refine Run.region ?_
      refine RL.val (x_moveP rfl) ?_
      refine RL.val (x_lds (cs := #[.int .i64 (n), .string (k)]) ty42 rfl rfl (hb_25.cl.drop 0 2)) ?_
      refine RL.st rfl <| St1.call (vals := [.pointer (some ⟨b_1, 0, none⟩), .agg #[.int .i64 (n), .string (k)]]) en19 rfl (putB _ _ _ (mk16 (putsI n keys i)) 0 (⟨n, k⟩ : Hint) _ hO_9 (by first | omega | decide) (by first | omega | decide)) ?_
      rintro _ w_37 ⟨al_35, cl_36, rfl, hB_38, hm_39, K_40⟩
      obtain ⟨e1, e2⟩ := mk16_put (l := putsI n keys i) hn hc33.1.2 hc33.2 (by omega)
      rw [e1]
      rw [e2] at hB_38
      clear e1 e2
      have pr_42 : ∀ q_, boxS b_1 al_35 q_ → ¬ own ah q_ := hm_39.apart pr_11 ho_10.own_lt
      have pr_43 : ¬ boxS b_1 al_35 b_22 := hm_39.not pr_27 hb_25.lt
      have pg_44 : ∀ q_, boxS b_1 al_35 q_ → w.heap.size ≤ q_ := hm_39.ge pr_12 K0.size
      replace ho_10 := ho_10.keepO K_40 (fun q_ h1 h2 => pr_11 q_ h2 h1)
      replace hb_25 := hb_25.keep K_40 pr_27
      replace K0 := K0.new K_40 pr_12
      clear hm_39
      refine RL.val (litF (x_neI rfl rfl) (by decide)) ?_
      refine RL.nil ?_
      refine Run.condF rfl ?_
      refine Run.skip ?_
      refine Run.region ?_
      refine RL.val (x_moveSl rfl) ?_
      refine RL.val (x_lds (cs := #[.int .i64 (n), .string (k)]) ty42 rfl rfl (hb_25.cl.drop 0 2)) ?_
      refine RL.st rfl <| St1.buildSlice ([(⟨n, k⟩ : Hint)] : List Hint) Try.underlying35 ty42 rfl rfl (by first | decide | (simp [Enc.size])) ?_
      intro b_45 w_46 hl_49 ho_48 K_47
      have pr_50 : ∀ q_, own (some ⟨b_45, 0, none⟩) q_ → ¬ own ah q_ := apartNew (ge_new hl_49) ho_10.own_lt
      have pr_51 : ¬ own (some ⟨b_45, 0, none⟩) b_22 := notNew (ge_new hl_49) hb_25.lt
      have pr_52 : ∀ q_, own (some ⟨b_45, 0, none⟩) q_ → ¬ boxS b_1 al_35 q_ := apartNew (ge_new hl_49) hB_38.own_lt
      have pg_53 : ∀ q_, own (some ⟨b_45, 0, none⟩) q_ → w.heap.size ≤ q_ := fun q_ h => Nat.le_trans K0.size ((ge_new hl_49) q_ h)
      clear hl_49
      replace ho_10 := ho_10.ext K_47
      replace hb_25 := hb_25.ext K_47
      replace hB_38 := hB_38.ext K_47
      replace K0 := K0.ext K_47
      refine RL.st rfl <| St1.append (xs := putsI n keys i) (ys := ([(⟨n, k⟩ : Hint)] : List Hint)) Try.underlying35 ty42 rfl rfl rfl ho_10 ho_48.sl (by first | omega | (simp only [lr]; omega)) (by decide) ?_
      intro a_54 c_55 w_56 ho_57 K_58 hm_59 hrm_60
      have pr_61 : ¬ own a_54 b_22 := hm_59.not pr_28 hb_25.lt
      have pr_62 : ∀ q_, own a_54 q_ → ¬ boxS b_1 al_35 q_ := hm_59.apart (fun q_ h1 h2 => pr_42 q_ h2 h1) hB_38.own_lt
      have pr_63 : ∀ q_, own a_54 q_ → ¬ own (some ⟨b_45, 0, none⟩) q_ := hm_59.apart (fun q_ h1 h2 => pr_50 q_ h2 h1) ho_48.own_lt
      have pg_64 : ∀ q_, own a_54 q_ → w.heap.size ≤ q_ := hm_59.ge pr_13 K0.size
      replace hb_25 := hb_25.keep K_58 pr_28
      replace hB_38 := hB_38.keepO K_58 pr_42
      replace ho_48 := ho_48.keepO K_58 pr_50
      replace K0 := K0.new K_58 pr_13
      clear hm_59
      clear hrm_60
      refine RL.val (x_assignSl rfl) ?_
      refine RL.nil ?_
      refine Run.inBlock ?_
      refine Run.region ?_
      refine RL.val (x_add rfl rfl (by omega) (by omega)) ?_
      refine RL.val (x_moveI rfl) ?_
      refine RL.nil ?_
      have e := putsI_yes (n := n) hx hc33
      refine ih1 (i + 1) _ _ ?_ (by omega)
      rw [e]
      refine ⟨_, _, _, _, ⟨rfl, rfl, rfl, rfl, rfl, rfl, trivial⟩, K0, hB_38, ho_57, (fun q_ h1 h2 => pr_62 q_ h2 h1), pg_44, pg_64, ?_⟩
      · omega
  · try simp only [br] at hc15
    refine Run.exit rfl ?_
    refine Run.seq ?_
    refine Run.region ?_
    refine RL.val (x_moveP rfl) ?_
    refine RL.val (x_moveSl rfl) ?_
    refine RL.val (x_assignP rfl) ?_
    refine RL.val (x_assignSl rfl) ?_
    refine RL.nil ?_
    refine Run.ret2 (v := .pointer (some ⟨b_1, 0, none⟩)) (x := .slice (ah) ((putsI n keys i).length) (ch)) Try.func16 rfl rfl rfl ?_
    have hil : i = keys.length := by omega
    subst hil
    exact ⟨_, rfl, b_1, alb, clb, ah, ch, rfl, hO_9, ho_10, pr_12, pr_13, pr_11, K0⟩

set_option maxHeartbeats 4000000 in
theorem awake16 (w : World) :
    Calls Try.prog 17 #[] w (Ret (fun v w' => v = .bool true ∧ Ext w w')) := by
  refine calls_run (n := 27) Try.func17 rfl rfl rfl ?_
  refine Run.seq ?_
  refine Run.region ?_
  refine RL.val (x_assignB rfl) ?_
  refine RL.nil ?_
  refine Run.seq ?_
  refine Run.region ?_
  refine RL.st rfl <| St1.call (vals := []) en25 rfl (newB _) ?_
  rintro _ w_2 ⟨b_1, rfl, hB_3, hg_4, K_5⟩
  have pg_6 : ∀ q_, boxS b_1 none q_ → w.heap.size ≤ q_ := fun q_ h => Nat.le_trans (Nat.le_refl _) ((boxS_new hg_4) q_ h)
  clear hg_4
  have K0 := (K_5 : Ext w _)
  refine RL.val (x_assignP rfl) ?_
  refine RL.nil ?_
  refine Run.seq ?_
  refine Run.region ?_
  refine RL.val (x_build (cells := #[.int .i64 (1), .string (⟨#[97]⟩)]) (by kernel_rfl)) ?_
  refine RL.st rfl <| St1.alloc ty42 ?_
  intro b_7 w_8 hl_11 hb_10 K_9
  replace hb_10 : Blk w_8 b_7 [.int .i64 (0), .string (⟨#[]⟩)] 42 := hb_10
  have pr_12 : ¬ boxS b_1 none b_7 := fun h => absurd (hB_3.own_lt _ h) (by omega)
  have : w.heap.size ≤ b_7 := Nat.le_trans K0.size hl_11
  clear hl_11
  replace hB_3 := hB_3.ext K_9
  replace K0 := K0.ext K_9
  refine RL.st rfl <| St1.store (v := .agg #[.int .i64 (1), .string (⟨#[97]⟩)]) ty42 rfl rfl rfl (by simp [Value.cells, Value.oneCell']) hb_10 (by simp) ?_
  intro w_13 hb_10_ K_14
  have hb_10' : Blk w_13 b_7 [.int .i64 (1), .string (⟨#[97]⟩)] 42 := hb_10_
  clear hb_10_
  replace hB_3 := hB_3.keepO K_14 (fun q_ hq_ eq_ => pr_12 (by simp only [one] at eq_; rw [← eq_]; exact hq_))
  replace K0 := K0.new K_14 (fun x hx => by simp only [one] at hx; omega)
  replace hb_10 := hb_10'
  clear hb_10'
  refine RL.nil ?_
  refine Run.seq ?_
  refine Run.drawT [] (m := 23) (by kernel_rfl) rfl ?_
  intro w_15 K_16
  replace hB_3 := hB_3.ext K_16
  replace hb_10 := hb_10.ext K_16
  replace K0 := K0.ext K_16
  refine ⟨fun w' => Blk w' b_7 [.int .i64 (1), .string (⟨#[97]⟩)] 42 ∧ True, ?_⟩
  refine RT.takeP (v := .pointer (some ⟨b_1, 0, none⟩)) 0 rfl (by kernel_rfl) (.inr ⟨hb_10, trivial⟩) (fun _ => (x_moveP rfl)) ?_
  refine RT.take (v := .agg #[.int .i64 (1), .string (⟨#[97]⟩)]) 1 rfl (by kernel_rfl) ⟨hb_10, trivial⟩ (by rintro _ ⟨hb_10, -⟩; exact (x_lds (cs := #[.int .i64 (1), .string (⟨#[97]⟩)]) ty42 rfl rfl (hb_10.cl.drop 0 2))) ?_
  refine RT.st 2 rfl (by kernel_rfl) rfl <| St1.call (vals := [.pointer (some ⟨b_1, 0, none⟩), .agg #[.int .i64 (1), .string (⟨#[97]⟩)]]) en19 rfl (putB _ _ _ [] 0 (⟨1, ⟨#[97]⟩⟩ : Hint) _ hB_3 (by first | omega | decide) (by first | omega | decide)) ?_
  rintro _ w_19 ⟨al_17, cl_18, rfl, hB_20, hm_21, K_22⟩
  obtain ⟨e1, e2⟩ := aw_put
  rw [e1]
  rw [e2] at hB_20
  clear e1 e2
  have pr_24 : ¬ boxS b_1 al_17 b_7 := hm_21.not pr_12 hb_10.lt
  have pg_25 : ∀ q_, boxS b_1 al_17 q_ → w.heap.size ≤ q_ := hm_21.ge pg_6 K0.size
  replace hb_10 := hb_10.keep K_22 pr_12
  replace K0 := K0.new K_22 pg_6
  clear hm_21
  refine ⟨.inr ⟨hb_10, trivial⟩, ?_⟩
  refine RT.takeP (v := .bool (true)) 3 rfl (by kernel_rfl) (.inr ⟨hb_10, trivial⟩) (fun _ => (litT (x_eqI rfl rfl) (by decide))) ?_
  refine RT.takeP (v := .bool (true)) 4 rfl (by kernel_rfl) (.inr ⟨hb_10, trivial⟩) (fun _ => (x_moveB rfl)) ?_
  refine RT.gtakeP (v := .pointer (some ⟨b_1, 0, none⟩)) 5 rfl (by kernel_rfl) (.inr ⟨hb_10, trivial⟩) (wantedT1 rfl rfl rfl rfl) (fun hg _ => (x_moveP rfl)) ?_
  refine RT.gtake (v := .agg #[.int .i64 (1), .string (⟨#[97]⟩)]) 6 rfl (by kernel_rfl) ⟨hb_10, trivial⟩ (wantedT1 rfl rfl rfl rfl) (fun hg => by rintro _ ⟨hb_10, -⟩; exact (x_lds (cs := #[.int .i64 (1), .string (⟨#[97]⟩)]) ty42 rfl rfl (hb_10.cl.drop 0 2))) ?_
  refine RT.gst 7 rfl (by kernel_rfl) (wantedT1 rfl rfl rfl rfl) <| St1.call (vals := [.pointer (some ⟨b_1, 0, none⟩), .agg #[.int .i64 (1), .string (⟨#[97]⟩)]]) en23 rfl (aw_has hB_20) ?_
  rintro _ w_26 ⟨rfl, K_27⟩
  replace hb_10 := hb_10.ext K_27
  replace hB_20 := hB_20.ext K_27
  replace K0 := K0.ext K_27
  refine ⟨.inr ⟨hb_10, trivial⟩, ?_⟩
  refine RT.takeP (v := .bool (true)) 8 rfl (by kernel_rfl) (.inr ⟨hb_10, trivial⟩) (fun _ => (x_andT rfl rfl rfl)) ?_
  refine RT.takeP (v := .bool (true)) 9 rfl (by kernel_rfl) (.inr ⟨hb_10, trivial⟩) (fun _ => (x_moveB rfl)) ?_
  refine RT.gtakeP (v := .pointer (some ⟨b_1, 0, none⟩)) 10 rfl (by kernel_rfl) (.inr ⟨hb_10, trivial⟩) (wantedT1 rfl rfl rfl rfl) (fun hg _ => (x_moveP rfl)) ?_
  refine RT.gst 11 rfl (by kernel_rfl) (wantedT1 rfl rfl rfl rfl) <| St1.call (vals := [.pointer (some ⟨b_1, 0, none⟩), .int .i64 (1)]) en21 rfl (aw_cnt hB_20) ?_
  rintro _ w_28 ⟨rfl, K_29⟩
  replace hb_10 := hb_10.ext K_29
  replace hB_20 := hB_20.ext K_29
  replace K0 := K0.ext K_29
  refine ⟨.inr ⟨hb_10, trivial⟩, ?_⟩
  refine RT.gtakeP (v := .bool (true)) 12 rfl (by kernel_rfl) (.inr ⟨hb_10, trivial⟩) (wantedT1 rfl rfl rfl rfl) (fun hg _ => (litT (x_eqI rfl rfl) (by decide))) ?_
  refine RT.takeP (v := .bool (true)) 13 rfl (by kernel_rfl) (.inr ⟨hb_10, trivial⟩) (fun _ => (x_andT rfl rfl rfl)) ?_
  refine RT.takeP (v := .bool (true)) 14 rfl (by kernel_rfl) (.inr ⟨hb_10, trivial⟩) (fun _ => (x_moveB rfl)) ?_
  refine RT.gtakeP (v := .pointer (some ⟨b_1, 0, none⟩)) 15 rfl (by kernel_rfl) (.inr ⟨hb_10, trivial⟩) (wantedT1 rfl rfl rfl rfl) (fun hg _ => (x_moveP rfl)) ?_
  refine RT.gtake (v := .agg #[.int .i64 (1), .string (⟨#[97]⟩)]) 18 rfl (by kernel_rfl) ⟨hb_10, trivial⟩ (wantedT1 rfl rfl rfl rfl) (fun hg => by rintro _ ⟨hb_10, -⟩; exact (x_lds (cs := #[.int .i64 (1), .string (⟨#[97]⟩)]) ty42 rfl rfl (hb_10.cl.drop 0 2))) ?_
  refine RT.fork2 16 19 (by kernel_rfl) ?_ ?_
  · refine RT1.gst rfl (wantedT1 rfl rfl rfl rfl) <| St1.buildSlice ([1] : List Int) Try.underlying22 ty3 rfl rfl (by first | decide | (simp [Enc.size])) ?_
    intro b_30 w_31 hl_34 ho_33 K_32
    have pr_35 : ¬ own (some ⟨b_30, 0, none⟩) b_7 := notNew (ge_new hl_34) hb_10.lt
    have pr_36 : ∀ q_, own (some ⟨b_30, 0, none⟩) q_ → ¬ boxS b_1 al_17 q_ := apartNew (ge_new hl_34) hB_20.own_lt
    have pg_37 : ∀ q_, own (some ⟨b_30, 0, none⟩) q_ → w.heap.size ≤ q_ := fun q_ h => Nat.le_trans K0.size ((ge_new hl_34) q_ h)
    clear hl_34
    replace hb_10 := hb_10.ext K_32
    replace hB_20 := hB_20.ext K_32
    replace K0 := K0.ext K_32
    refine ⟨.inr ⟨hb_10, trivial⟩, ?_⟩
    refine RT.fork2 17 19 (by kernel_rfl) ?_ ?_
    · refine RT1.gst rfl (wantedT1 rfl rfl rfl rfl) <| St1.call (vals := [.pointer (some ⟨b_1, 0, none⟩), .int .i64 (0), .slice (some ⟨b_30, 0, none⟩) (([1] : List Int).length) (([1] : List Int).length)]) en18 rfl (dueB _ _ _ awL 0 0 _ ([1] : List Int) _ _ hB_20 (by first | omega | decide) ho_33.sl (fun x hx hb => (fun q_ h1 h2 => pr_36 q_ h2 h1) _ hb ⟨x, hx, rfl⟩) (by first | omega | decide) (by first | omega | decide) aw_past (by omega) (by omega) (by omega)) ?_
      rintro _ w_40 ⟨a_38, c_39, rfl, ho_41, hg_42, hB_43, K_44⟩
      rw [aw_due] at ho_41 ⊢
      have pr_45 : ¬ own a_38 b_7 := notNew hg_42 hb_10.lt
      have pr_46 : ∀ q_, own a_38 q_ → ¬ boxS b_1 al_17 q_ := apartNew hg_42 hB_20.own_lt
      have pr_47 : ∀ q_, own a_38 q_ → ¬ own (some ⟨b_30, 0, none⟩) q_ := apartNew hg_42 ho_33.own_lt
      have pg_48 : ∀ q_, own a_38 q_ → w.heap.size ≤ q_ := fun q_ h => Nat.le_trans K0.size (hg_42 q_ h)
      clear hg_42
      replace hb_10 := hb_10.keep K_44 pr_24
      replace ho_33 := ho_33.keepO K_44 pr_36
      replace K0 := K0.new K_44 pg_25
      replace hB_20 := hB_43
      clear hB_43
      refine ⟨.inr ⟨hb_10, trivial⟩, ?_⟩
      refine RT.gst 19 rfl (by kernel_rfl) (wantedT1 rfl rfl rfl rfl) <| St1.buildSlice ([(⟨1, ⟨#[97]⟩⟩ : Hint)] : List Hint) Try.underlying35 ty42 rfl rfl (by first | decide | (simp [Enc.size])) ?_
      intro b_49 w_50 hl_53 ho_52 K_51
      have pr_54 : ¬ own (some ⟨b_49, 0, none⟩) b_7 := notNew (ge_new hl_53) hb_10.lt
      have pr_55 : ∀ q_, own (some ⟨b_49, 0, none⟩) q_ → ¬ boxS b_1 al_17 q_ := apartNew (ge_new hl_53) hB_20.own_lt
      have pr_56 : ∀ q_, own (some ⟨b_49, 0, none⟩) q_ → ¬ own (some ⟨b_30, 0, none⟩) q_ := apartNew (ge_new hl_53) ho_33.own_lt
      have pr_57 : ∀ q_, own (some ⟨b_49, 0, none⟩) q_ → ¬ own a_38 q_ := apartNew (ge_new hl_53) ho_41.own_lt
      have pg_58 : ∀ q_, own (some ⟨b_49, 0, none⟩) q_ → w.heap.size ≤ q_ := fun q_ h => Nat.le_trans K0.size ((ge_new hl_53) q_ h)
      clear hl_53
      replace hb_10 := hb_10.ext K_51
      replace hB_20 := hB_20.ext K_51
      replace ho_33 := ho_33.ext K_51
      replace ho_41 := ho_41.ext K_51
      replace K0 := K0.ext K_51
      refine ⟨.inr ⟨hb_10, trivial⟩, ?_⟩
      refine RT.gst 20 rfl (by kernel_rfl) (wantedT1 rfl rfl rfl rfl) <| St1.call (vals := [.slice (a_38) (([awH]).length) (c_39), .slice (some ⟨b_49, 0, none⟩) (([(⟨1, ⟨#[97]⟩⟩ : Hint)] : List Hint).length) (([(⟨1, ⟨#[97]⟩⟩ : Hint)] : List Hint).length)]) en20 rfl (aw_eq ho_41.sl ho_52.sl) ?_
      rintro _ w_59 ⟨rfl, K_60⟩
      replace hb_10 := hb_10.ext K_60
      replace hB_20 := hB_20.ext K_60
      replace ho_33 := ho_33.ext K_60
      replace ho_41 := ho_41.ext K_60
      replace ho_52 := ho_52.ext K_60
      replace K0 := K0.ext K_60
      refine ⟨.inr ⟨hb_10, trivial⟩, ?_⟩
      refine RT.takeP (v := .bool (true)) 21 rfl (by kernel_rfl) (.inr ⟨hb_10, trivial⟩) (fun _ => (x_andT rfl rfl rfl)) ?_
      refine RT.takeP (v := .bool (true)) 22 rfl (by kernel_rfl) (.inr ⟨hb_10, trivial⟩) (fun _ => (x_assignB rfl)) ?_
      refine RT.done (by kernel_rfl) ?_
      refine Run.ret1 (v := .bool (true)) Try.func17 rfl rfl ?_
      exact ⟨_, rfl, rfl, K0⟩
    · refine RT1.gst rfl (wantedT1 rfl rfl rfl rfl) <| St1.buildSlice ([(⟨1, ⟨#[97]⟩⟩ : Hint)] : List Hint) Try.underlying35 ty42 rfl rfl (by first | decide | (simp [Enc.size])) ?_
      intro b_61 w_62 hl_65 ho_64 K_63
      have pr_66 : ¬ own (some ⟨b_61, 0, none⟩) b_7 := notNew (ge_new hl_65) hb_10.lt
      have pr_67 : ∀ q_, own (some ⟨b_61, 0, none⟩) q_ → ¬ boxS b_1 al_17 q_ := apartNew (ge_new hl_65) hB_20.own_lt
      have pr_68 : ∀ q_, own (some ⟨b_61, 0, none⟩) q_ → ¬ own (some ⟨b_30, 0, none⟩) q_ := apartNew (ge_new hl_65) ho_33.own_lt
      have pg_69 : ∀ q_, own (some ⟨b_61, 0, none⟩) q_ → w.heap.size ≤ q_ := fun q_ h => Nat.le_trans K0.size ((ge_new hl_65) q_ h)
      clear hl_65
      replace hb_10 := hb_10.ext K_63
      replace hB_20 := hB_20.ext K_63
      replace ho_33 := ho_33.ext K_63
      replace K0 := K0.ext K_63
      refine ⟨.inr ⟨hb_10, trivial⟩, ?_⟩
      refine RT.gst 17 rfl (by kernel_rfl) (wantedT1 rfl rfl rfl rfl) <| St1.call (vals := [.pointer (some ⟨b_1, 0, none⟩), .int .i64 (0), .slice (some ⟨b_30, 0, none⟩) (([1] : List Int).length) (([1] : List Int).length)]) en18 rfl (dueB _ _ _ awL 0 0 _ ([1] : List Int) _ _ hB_20 (by first | omega | decide) ho_33.sl (fun x hx hb => (fun q_ h1 h2 => pr_36 q_ h2 h1) _ hb ⟨x, hx, rfl⟩) (by first | omega | decide) (by first | omega | decide) aw_past (by omega) (by omega) (by omega)) ?_
      rintro _ w_72 ⟨a_70, c_71, rfl, ho_73, hg_74, hB_75, K_76⟩
      rw [aw_due] at ho_73 ⊢
      have pr_77 : ¬ own a_70 b_7 := notNew hg_74 hb_10.lt
      have pr_78 : ∀ q_, own a_70 q_ → ¬ boxS b_1 al_17 q_ := apartNew hg_74 hB_20.own_lt
      have pr_79 : ∀ q_, own a_70 q_ → ¬ own (some ⟨b_30, 0, none⟩) q_ := apartNew hg_74 ho_33.own_lt
      have pr_80 : ∀ q_, own a_70 q_ → ¬ own (some ⟨b_61, 0, none⟩) q_ := apartNew hg_74 ho_64.own_lt
      have pg_81 : ∀ q_, own a_70 q_ → w.heap.size ≤ q_ := fun q_ h => Nat.le_trans K0.size (hg_74 q_ h)
      clear hg_74
      replace hb_10 := hb_10.keep K_76 pr_24
      replace ho_33 := ho_33.keepO K_76 pr_36
      replace ho_64 := ho_64.keepO K_76 pr_67
      replace K0 := K0.new K_76 pg_25
      replace hB_20 := hB_75
      clear hB_75
      refine ⟨.inr ⟨hb_10, trivial⟩, ?_⟩
      refine RT.gst 20 rfl (by kernel_rfl) (wantedT1 rfl rfl rfl rfl) <| St1.call (vals := [.slice (a_70) (([awH]).length) (c_71), .slice (some ⟨b_61, 0, none⟩) (([(⟨1, ⟨#[97]⟩⟩ : Hint)] : List Hint).length) (([(⟨1, ⟨#[97]⟩⟩ : Hint)] : List Hint).length)]) en20 rfl (aw_eq ho_73.sl ho_64.sl) ?_
      rintro _ w_82 ⟨rfl, K_83⟩
      replace hb_10 := hb_10.ext K_83
      replace hB_20 := hB_20.ext K_83
      replace ho_33 := ho_33.ext K_83
      replace ho_64 := ho_64.ext K_83
      replace ho_73 := ho_73.ext K_83
      replace K0 := K0.ext K_83
      refine ⟨.inr ⟨hb_10, trivial⟩, ?_⟩
      refine RT.takeP (v := .bool (true)) 21 rfl (by kernel_rfl) (.inr ⟨hb_10, trivial⟩) (fun _ => (x_andT rfl rfl rfl)) ?_
      refine RT.takeP (v := .bool (true)) 22 rfl (by kernel_rfl) (.inr ⟨hb_10, trivial⟩) (fun _ => (x_assignB rfl)) ?_
      refine RT.done (by kernel_rfl) ?_
      refine Run.ret1 (v := .bool (true)) Try.func17 rfl rfl ?_
      exact ⟨_, rfl, rfl, K0⟩
  · refine RT1.gst rfl (wantedT1 rfl rfl rfl rfl) <| St1.buildSlice ([(⟨1, ⟨#[97]⟩⟩ : Hint)] : List Hint) Try.underlying35 ty42 rfl rfl (by first | decide | (simp [Enc.size])) ?_
    intro b_84 w_85 hl_88 ho_87 K_86
    have pr_89 : ¬ own (some ⟨b_84, 0, none⟩) b_7 := notNew (ge_new hl_88) hb_10.lt
    have pr_90 : ∀ q_, own (some ⟨b_84, 0, none⟩) q_ → ¬ boxS b_1 al_17 q_ := apartNew (ge_new hl_88) hB_20.own_lt
    have pg_91 : ∀ q_, own (some ⟨b_84, 0, none⟩) q_ → w.heap.size ≤ q_ := fun q_ h => Nat.le_trans K0.size ((ge_new hl_88) q_ h)
    clear hl_88
    replace hb_10 := hb_10.ext K_86
    replace hB_20 := hB_20.ext K_86
    replace K0 := K0.ext K_86
    refine ⟨.inr ⟨hb_10, trivial⟩, ?_⟩
    refine RT.gst 16 rfl (by kernel_rfl) (wantedT1 rfl rfl rfl rfl) <| St1.buildSlice ([1] : List Int) Try.underlying22 ty3 rfl rfl (by first | decide | (simp [Enc.size])) ?_
    intro b_92 w_93 hl_96 ho_95 K_94
    have pr_97 : ¬ own (some ⟨b_92, 0, none⟩) b_7 := notNew (ge_new hl_96) hb_10.lt
    have pr_98 : ∀ q_, own (some ⟨b_92, 0, none⟩) q_ → ¬ boxS b_1 al_17 q_ := apartNew (ge_new hl_96) hB_20.own_lt
    have pr_99 : ∀ q_, own (some ⟨b_92, 0, none⟩) q_ → ¬ own (some ⟨b_84, 0, none⟩) q_ := apartNew (ge_new hl_96) ho_87.own_lt
    have pg_100 : ∀ q_, own (some ⟨b_92, 0, none⟩) q_ → w.heap.size ≤ q_ := fun q_ h => Nat.le_trans K0.size ((ge_new hl_96) q_ h)
    clear hl_96
    replace hb_10 := hb_10.ext K_94
    replace hB_20 := hB_20.ext K_94
    replace ho_87 := ho_87.ext K_94
    replace K0 := K0.ext K_94
    refine ⟨.inr ⟨hb_10, trivial⟩, ?_⟩
    refine RT.gst 17 rfl (by kernel_rfl) (wantedT1 rfl rfl rfl rfl) <| St1.call (vals := [.pointer (some ⟨b_1, 0, none⟩), .int .i64 (0), .slice (some ⟨b_92, 0, none⟩) (([1] : List Int).length) (([1] : List Int).length)]) en18 rfl (dueB _ _ _ awL 0 0 _ ([1] : List Int) _ _ hB_20 (by first | omega | decide) ho_95.sl (fun x hx hb => (fun q_ h1 h2 => pr_98 q_ h2 h1) _ hb ⟨x, hx, rfl⟩) (by first | omega | decide) (by first | omega | decide) aw_past (by omega) (by omega) (by omega)) ?_
    rintro _ w_103 ⟨a_101, c_102, rfl, ho_104, hg_105, hB_106, K_107⟩
    rw [aw_due] at ho_104 ⊢
    have pr_108 : ¬ own a_101 b_7 := notNew hg_105 hb_10.lt
    have pr_109 : ∀ q_, own a_101 q_ → ¬ boxS b_1 al_17 q_ := apartNew hg_105 hB_20.own_lt
    have pr_110 : ∀ q_, own a_101 q_ → ¬ own (some ⟨b_84, 0, none⟩) q_ := apartNew hg_105 ho_87.own_lt
    have pr_111 : ∀ q_, own a_101 q_ → ¬ own (some ⟨b_92, 0, none⟩) q_ := apartNew hg_105 ho_95.own_lt
    have pg_112 : ∀ q_, own a_101 q_ → w.heap.size ≤ q_ := fun q_ h => Nat.le_trans K0.size (hg_105 q_ h)
    clear hg_105
    replace hb_10 := hb_10.keep K_107 pr_24
    replace ho_87 := ho_87.keepO K_107 pr_90
    replace ho_95 := ho_95.keepO K_107 pr_98
    replace K0 := K0.new K_107 pg_25
    replace hB_20 := hB_106
    clear hB_106
    refine ⟨.inr ⟨hb_10, trivial⟩, ?_⟩
    refine RT.gst 20 rfl (by kernel_rfl) (wantedT1 rfl rfl rfl rfl) <| St1.call (vals := [.slice (a_101) (([awH]).length) (c_102), .slice (some ⟨b_84, 0, none⟩) (([(⟨1, ⟨#[97]⟩⟩ : Hint)] : List Hint).length) (([(⟨1, ⟨#[97]⟩⟩ : Hint)] : List Hint).length)]) en20 rfl (aw_eq ho_104.sl ho_87.sl) ?_
    rintro _ w_113 ⟨rfl, K_114⟩
    replace hb_10 := hb_10.ext K_114
    replace hB_20 := hB_20.ext K_114
    replace ho_87 := ho_87.ext K_114
    replace ho_95 := ho_95.ext K_114
    replace ho_104 := ho_104.ext K_114
    replace K0 := K0.ext K_114
    refine ⟨.inr ⟨hb_10, trivial⟩, ?_⟩
    refine RT.takeP (v := .bool (true)) 21 rfl (by kernel_rfl) (.inr ⟨hb_10, trivial⟩) (fun _ => (x_andT rfl rfl rfl)) ?_
    refine RT.takeP (v := .bool (true)) 22 rfl (by kernel_rfl) (.inr ⟨hb_10, trivial⟩) (fun _ => (x_assignB rfl)) ?_
    refine RT.done (by kernel_rfl) ?_
    refine Run.ret1 (v := .bool (true)) Try.func17 rfl rfl ?_
    exact ⟨_, rfl, rfl, K0⟩

end Go.Proofs.Ytlediffjclploaa
