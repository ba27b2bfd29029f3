/-
  HintsFew.
-/
import Derived.Test.YtlediffjclploaaRows
import Derived.Test.YtlediffjclploaaHc
namespace Go.Proofs.Ytlediffjclploaa
attribute [local irreducible] St1 RL RA RT RT1 Run

open Ha
/-! ### of one node no more than four -/
def cW (n t : Int) (l : List KeptM) : Nat := l.countP (onWay t n)
theorem onWay_later {n s t : Int} {k : KeptM} (hst : s ≤ t) (h : onWay t n k = true) : onWay s n k = true := by
  simp only [onWay, waitsB, Bool.and_eq_true, decide_eq_true_eq] at h ⊢
  omega
theorem onWay_new {n s t : Int} {h : Hint} (h0 : 0 ≤ s) (ho : h.owner = n) : onWay t n ⟨h, s⟩ = decide (t - s < 1000) := by
  simp only [onWay, waitsB, ho, h0, decide_true, Bool.true_and]
theorem sndI_cW {n s t : Int} (l : List KeptM) (h0 : 0 ≤ s) (hst : s ≤ t) : ∀ i, i ≤ l.length →
    cW n t (sndI s n l i).L = cW n t (l.take i) + (if t - s < 1000 then (sndI s n l i).T.length else 0) ∧ (sndI s n l i).c = cW n s l + (sndI s n l i).T.length ∧ ((sndI s n l i).c ≤ 4 ∨ (sndI s n l i).c = cW n s l) := by
  intro i
  induction i with
  | zero => intro _; exact ⟨by simp [sndI, cW], by simp [sndI, cW], .inr (by simp [sndI, cW])⟩
  | succ i ih =>
    intro hi
    obtain ⟨h1, h2, h3⟩ := ih (by omega)
    have hlt : i < l.length := by omega
    rw [sndI_step (x := l[i]) (by simp), sStep, List.take_succ_eq_append_getElem hlt]
    split
    · rename_i hc
      simp only [Bool.and_eq_true, decide_eq_true_eq, Bool.not_eq_true'] at hc
      obtain ⟨⟨ho, hw⟩, hc4⟩ := hc
      have hno : onWay t n l[i] = false := by
        cases hh : onWay t n l[i] with
        | false => rfl
        | true =>
          have := onWay_later hst hh
          simp only [onWay, hw, Bool.and_false] at this
          cases this
      unfold cW at h1 h2 h3 ⊢
      simp only [List.countP_append, List.countP_singleton, hno, onWay_new h0 ho, List.length_append, List.length_singleton]
      refine ⟨?_, by omega, by omega⟩
      rw [h1]
      by_cases hd : t - s < 1000
      · simp [hd]; omega
      · simp [hd]
    · unfold cW at h1 h2 h3 ⊢
      simp only [List.countP_append]
      exact ⟨by omega, h2, h3⟩
theorem due2 (s n : Int) (l : List KeptM) (hn : 0 ≤ n ∧ n < 8) : (due s l [n, n]).L = (sndI s n l l.length).L ∧ (due s l [n, n]).T = (sndI s n l l.length).T := by
  have e1 : dueI s l [n, n] 1 = ⟨(sndI s n l l.length).L, [] ++ (sndI s n l l.length).T, updB (fun _ => false) n.toNat true⟩ := (dueI_step (i := 0) (n := n) rfl).trans (dStep_yes hn rfl)
  have e2 : dueI s l [n, n] 2 = dueI s l [n, n] 1 := (dueI_step (i := 1) (n := n) rfl).trans (dStep_no (.inr (by rw [e1]; simp [updB])))
  have e3 : due s l [n, n] = dueI s l [n, n] 1 := e2
  rw [e3, e1]
  exact ⟨rfl, rfl⟩
/-- what holds between the times told and the box -/
def Few (n now : Int) (wl : List Int) (l : List KeptM) : Prop := Past l now ∧ 0 ≤ now ∧ cW n now l ≤ 4 ∧ (∀ t, now ≤ t → wl.countP (fun w => decide (t - w < 1000)) = cW n t l) ∧ (l = [] → wl = [])
theorem cW_mono {n s t : Int} (l : List KeptM) (h : s ≤ t) : cW n t l ≤ cW n s l := List.countP_mono_left fun _ _ hx => onWay_later h hx
theorem Few.step {n now d : Int} {wl : List Int} {l : List KeptM} (h : Few n now wl l) (hd : 0 ≤ d) (hn : 0 ≤ n ∧ n < 8) :
    Few n (now + d) (wl ++ List.replicate (due (now + d) l [n, n]).T.length (now + d)) (due (now + d) l [n, n]).L := by
  obtain ⟨h1, h2, h3, h4, h5⟩ := h
  obtain ⟨e1, e2⟩ := due2 (now + d) n l hn
  rw [e1, e2]
  have hp : Past l (now + d) := h1.mono (by omega)
  have hl := cW_mono (n := n) l (show now ≤ now + d by omega)
  refine ⟨sndI_past _ _ _ hp _ (Nat.le_refl _), by omega, ?_, ?_, ?_⟩
  · obtain ⟨q1, q2, q3⟩ := sndI_cW (n := n) (s := now + d) (t := now + d) l (by omega) (Int.le_refl _) l.length (Nat.le_refl _)
    rw [List.take_length] at q1
    rw [if_pos (by omega)] at q1
    omega
  · intro t ht
    obtain ⟨q1, q2, q3⟩ := sndI_cW (n := n) (s := now + d) (t := t) l (by omega) ht l.length (Nat.le_refl _)
    rw [List.take_length] at q1
    rw [q1, List.countP_append, h4 t (by omega), List.countP_replicate]
    simp only [decide_eq_true_eq]
  · intro hL
    have hlen := sndI_len (now + d) n l l.length (Nat.le_refl _)
    rw [hL] at hlen
    have hl0 : l = [] := List.eq_nil_of_length_eq_zero (by simpa using hlen.symm)
    subst hl0
    rw [h5 rfl]
    rfl
theorem Few.zero (n : Int) (l : List Hint) : Few n 0 [] (mk16 l) := by
  have hno : ∀ t k, k ∈ mk16 l → onWay t n k = false := by
    intro t k hk
    simp only [mk16, List.mem_map] at hk
    obtain ⟨h, _, rfl⟩ := hk
    simp [onWay, waitsB]
  have hc : ∀ t, cW n t (mk16 l) = 0 := fun t => List.countP_eq_zero.2 fun k hk => by rw [hno t k hk]; simp
  refine ⟨?_, Int.le_refl _, by rw [hc]; omega, fun t _ => by rw [hc]; rfl, fun _ => rfl⟩
  intro k hk
  simp only [mk16, List.mem_map] at hk
  obtain ⟨h, _, rfl⟩ := hk
  show (-1 : Int) ≤ 0
  omega

theorem due_T (s n : Int) (l : List KeptM) : (due s l [n, n]).T.length ≤ 8 := (dueI_len s l [n, n] 2 (by simp)).2.1
theorem due_L (s n : Int) (l : List KeptM) : (due s l [n, n]).L.length = l.length := (dueI_len s l [n, n] 2 (by simp)).1
theorem u64_of_wf {n : Int} (h : (Lit.int .u64 n).wf = true) : 0 ≤ n := by
  simp only [Lit.wf, Bool.and_eq_true, decide_eq_true_eq] at h
  have e1 : IntKind.u64.min = 0 := rfl
  rw [e1] at h
  exact h.1
theorem few_n (ow : Int) (h0 : 0 ≤ ow) : ∃ n : Int, IntKind.i64.wrap (ow.tmod 8) = n ∧ 0 ≤ n ∧ n < 8 := by
  have h1 : 0 ≤ ow.tmod 8 := Int.tmod_nonneg _ h0
  have h2 : ow.tmod 8 < 8 := Int.tmod_lt_of_pos _ (by omega)
  exact ⟨_, wrap64 _ (by omega) (by omega), h1, h2⟩
theorem u64_nonneg (t : Int) : 0 ≤ IntKind.u64.wrap t := by
  have e1 : IntKind.u64.bits = 64 := rfl
  have e2 : IntKind.u64.signed = false := rfl
  simp only [IntKind.wrap, e1, e2, Bool.false_and]
  exact Int.emod_nonneg _ (by decide)
theorem few_d (m t : Int) (hm : 0 < m) (hm2 : m ≤ 1000000) : ∃ d : Int, IntKind.i64.wrap ((IntKind.u64.wrap t).tmod m) = d ∧ 0 ≤ d ∧ d < m := by
  have h1 : 0 ≤ (IntKind.u64.wrap t).tmod m := Int.tmod_nonneg _ (u64_nonneg t)
  have h2 : (IntKind.u64.wrap t).tmod m < m := Int.tmod_lt_of_pos _ hm
  exact ⟨_, wrap64 _ (by omega) (by omega), h1, h2⟩
theorem replicate_push {α : Type} (wl : List α) (j : Nat) (x : α) : wl ++ List.replicate (j + 1) x = wl ++ List.replicate j x ++ [x] := by rw [List.replicate_succ', List.append_assoc]
theorem countP_takeI {l : List Int} {i : Nat} {x : Int} (p : Int → Bool) (h : l[i]? = some x) : (l.take (i + 1)).countP p = (l.take i).countP p + (if p x then 1 else 0) := by
  obtain ⟨hi, rfl⟩ := List.getElem?_eq_some_iff.1 h
  rw [List.take_succ_eq_append_getElem hi, List.countP_append, List.countP_singleton]

theorem en16 : Enters Try.prog 16 := enters_of Try.func16 rfl (by kernel_rfl)
theorem en17 : Enters Try.prog 17 := enters_of Try.func17 rfl (by kernel_rfl)

set_option maxHeartbeats 4000000 in
theorem law_few (ow : Int) (ak : Option Addr) (keys : List ByteArray) (ck : Nat) (at0 : Option Addr) (times : List Int) (ct0 : Nat) (w : World) (h0 : SlOf w ak keys) (h1 : SlOf w at0 times) (hl0 : keys.length ≤ 1048576) (hl1 : times.length ≤ 1048576) (how : 0 ≤ ow) (hkz : ∀ k ∈ keys, k.size ≤ 4294967295) :
    Calls Try.prog 5 #[.int .u64 (ow), .slice (ak) (keys.length) (ck), .slice (at0) (times.length) (ct0)] w (Ret (fun v w' => v = .bool true ∧ Ext w w')) := by
  obtain ⟨n, hne, hnr⟩ := few_n ow how
  refine calls_run (n := 87) Try.func5 rfl rfl rfl ?_
  refine Run.seq ?_
  refine Run.region ?_
  refine RL.val (x_assignB rfl) ?_
  refine RL.nil ?_
  refine Run.seq ?_
  refine Run.region ?_
  refine RL.val (x_moveI rfl) ?_
  refine RL.val (x_rem rfl rfl (by decide)) ?_
  refine RL.val (litI (x_convI rfl ⟨_, Try.underlying32⟩ Try.underlying3) hne) ?_
  refine RL.val (x_assignI rfl) ?_
  refine RL.nil ?_
  refine Run.seq ?_
  refine Run.region ?_
  refine RL.val (x_moveI rfl) ?_
  refine RL.val (x_moveSl rfl) ?_
  refine RL.st rfl <| St1.call (vals := [.int .i64 (n), .slice (ak) (keys.length) (ck)]) en16 rfl (put16 _ _ _ _ _ h0 (by omega) hnr hkz) ?_
  rintro _ w_6 ⟨b_1, al_2, cl_3, a_4, c_5, rfl, hB_7, ho_8, hg_9, hg_10, pr_11, K_12⟩
  have pg_13 : ∀ q_, boxS b_1 al_2 q_ → w.heap.size ≤ q_ := fun q_ h => Nat.le_trans (Nat.le_refl _) (hg_9 q_ h)
  have pg_14 : ∀ q_, own a_4 q_ → w.heap.size ≤ q_ := fun q_ h => Nat.le_trans (Nat.le_refl _) (hg_10 q_ h)
  clear hg_9 hg_10
  have K0 := (K_12 : Ext w _)
  refine RL.val (x_moveT rfl) ?_
  refine RL.val (x_extract rfl rfl) ?_
  refine RL.val (x_extract rfl rfl) ?_
  refine RL.val (x_assignP rfl) ?_
  refine RL.val (x_assignSl rfl) ?_
  refine RL.nil ?_
  refine Run.seq ?_
  refine Run.seq ?_
  refine Run.region ?_
  refine RL.val (x_moveP rfl) ?_
  refine RL.val (litF (x_ptrNil Try.underlying34 rfl rfl) rfl) ?_
  refine RL.val (x_moveB rfl) ?_
  refine RL.gst (wantedF1 rfl rfl rfl rfl) <| St1.call (vals := []) en17 rfl (awake16 _) ?_
  rintro _ w_15 ⟨rfl, K_16⟩
  replace hB_7 := hB_7.ext K_16
  replace ho_8 := ho_8.ext K_16
  replace K0 := K0.ext K_16
  refine RL.gst (wantedF1 rfl rfl rfl rfl) <| St1.val (x_not rfl) ?_
  refine RL.val (x_orF rfl rfl rfl) ?_
  refine RL.nil ?_
  refine Run.condF rfl ?_
  refine Run.skip ?_
  refine Run.seq ?_
  refine Run.region ?_
  refine RL.val (x_assignI rfl) ?_
  refine RL.nil ?_
  refine Run.seq ?_
  refine Run.region ?_
  refine RL.val (x_assignSl rfl) ?_
  refine RL.nil ?_
  refine Run.seq ?_
  refine Run.seq ?_
  refine Run.region ?_
  refine RL.val (x_moveSl rfl) ?_
  refine RL.val (x_lenSl Try.underlying22 rfl) ?_
  refine RL.val (x_moveI rfl) ?_
  refine RL.nil ?_
  refine Run.block ?_
  refine Run.loop (ι := Nat) (fun i ρ' w' => ∃ now : Int, ∃ bl : List KeptM, ∃ wl : List Int, ∃ aw : Option Addr, ∃ cw : Nat, Holds ρ' [(7, .int .i64 (n)), (8, .pointer (some ⟨b_1, 0, none⟩)), (9, .slice (a_4) ((puts n keys).length) (c_5)), (10, .int .i64 (now)), (11, .slice (aw) ((wl).length) (cw)), (32, .slice (at0) (times.length) (ct0)), (33, .int .i64 (((times.length : Nat) : Int))), (34, .int .i64 (((i : Nat) : Int)))] ∧ Ext w w' ∧ (OwnSl w' 42 (a_4) (c_5) (puts n keys)) ∧ (BoxAt w' b_1 al_2 cl_3 bl now) ∧ (OwnSl w' 3 aw cw (wl)) ∧ (∀ q_, boxS b_1 al_2 q_ → ¬ own a_4 q_) ∧ (∀ q_, boxS b_1 al_2 q_ → ¬ own aw q_) ∧ (∀ q_, boxS b_1 al_2 q_ → w.heap.size ≤ q_) ∧ (∀ q_, own aw q_ → ¬ own a_4 q_) ∧ (∀ q_, own aw q_ → w.heap.size ≤ q_) ∧ (i ≤ times.length) ∧ (Few n now wl bl) ∧ (now ≤ 2000 * (i : Int)) ∧ (wl.length ≤ 8 * i) ∧ (bl.length = (puts n keys).length) ∧ (bl.length ≤ 1048576) ∧ (∀ w ∈ wl, 0 ≤ w ∧ w ≤ now)) (fun i => times.length - i) 0 ?_ ?_
  · have ho_26 := OwnSl.nil (α := Int) w_15 3
    refine ⟨_, _, _, _, _, ⟨rfl, rfl, rfl, rfl, rfl, rfl, rfl, rfl, trivial⟩, K0, ho_8, hB_7, ho_26, pr_11, (fun q_ h1 h2 => (fun q_ h1 _ => own_none q_ h1) q_ h2 h1), pg_13, (fun q_ h1 _ => own_none q_ h1), (fun q_ h1 => absurd h1 (own_none q_)), ?_, ?_, ?_, ?_, ?_, ?_, ?_⟩
    · omega
    · exact Few.zero _ _
    · omega
    · simp
    · exact mk16_len _
    · rw [mk16_len]; exact Nat.le_trans (putsI_len n keys _ (Nat.le_refl _)) hl0
    · simp
  clear hB_7 ho_8
  clear K0
  rintro i ρ_27 w_17 ⟨now, bl, wl, aw, cw, hH_18, K0, ho_8, hO_19, ho_20, pr_21, pr_22, pr_23, pr_24, pr_25, hi, hFew, hnow, hwl, hbl, hbl2, hwr⟩ ih1
  obtain ⟨ρ₀, rfl⟩ := hH_18.ex
  clear hH_18
  refine Run.seq ?_
  refine Run.region ?_
  refine RL.val (x_ltI rfl rfl) ?_
  refine RL.nil ?_
  refine Run.seq ?_
  refine Run.cond rfl (fun hc35 => ?_) (fun hc35 => ?_)
  · try simp only [br] at hc35
    refine Run.skip ?_
    refine Run.seq ?_
    refine Run.block ?_
    refine Run.seq ?_
    refine Run.region ?_
    refine RL.val (x_moveI rfl) ?_
    obtain ⟨b_28, o_29, t, ht, ha_30, hc_31⟩ := h1.el (i := i) (by omega)
    have hc_31_lt := hc_31.lt
    replace hc_31 := hc_31.ext K0
    refine RL.val (x_idxN Try.underlying22 ty3 rfl rfl ha_30 (by omega)) ?_
    refine RL.val (x_ldV (v := .int .i64 (t)) (y := t) ty3 rfl hc_31 rfl) ?_
    refine RL.val (x_assignI rfl) ?_
    refine RL.val (x_assignI rfl) ?_
    refine RL.nil ?_
    refine Run.seq ?_
    refine Run.seq ?_
    refine Run.region ?_
    refine RL.val (x_moveI rfl) ?_
    refine RL.val (x_gtI rfl rfl) ?_
    refine RL.nil ?_
    refine Run.cond rfl (fun hc40 => ?_) (fun hc40 => ?_)
    · try simp only [br] at hc40
      refine Run.exit rfl ?_
      refine Run.seq ?_
      refine Run.region ?_
      refine RL.val (x_assignB rfl) ?_
      refine RL.nil ?_
      refine Run.ret1 (v := .bool (true)) Try.func5 rfl rfl ?_
      exact ⟨_, rfl, rfl, K0⟩
    · try simp only [br] at hc40
      refine Run.skip ?_
      refine Run.seq ?_
      obtain ⟨d, hde, hd0, hd1⟩ := few_d 2000 t (by omega) (by omega)
      have hF0 := hFew.2.1
      refine Run.region ?_
      refine RL.val (x_moveI rfl) ?_
      refine RL.val (x_moveI rfl) ?_
      refine RL.val (x_convI rfl ⟨_, Try.underlying3⟩ Try.underlying32) ?_
      refine RL.val (x_rem rfl rfl (by decide)) ?_
      refine RL.val (litI (x_convI rfl ⟨_, Try.underlying32⟩ Try.underlying3) hde) ?_
      refine RL.val (x_add rfl rfl (by omega) (by omega)) ?_
      refine RL.val (x_assignI rfl) ?_
      refine RL.nil ?_
      refine Run.seq ?_
      refine Run.seq ?_
      refine Run.region ?_
      refine RL.val (x_moveP rfl) ?_
      refine RL.val (x_moveI rfl) ?_
      refine RL.val (x_moveI rfl) ?_
      refine RL.val (x_moveI rfl) ?_
      refine RL.st rfl <| St1.buildSlice ([n, n] : List Int) Try.underlying22 ty3 rfl rfl (by first | decide | (simp [Enc.size])) ?_
      intro b_34 w_35 hl_38 ho_37 K_36
      have pr_39 : ∀ q_, own (some ⟨b_34, 0, none⟩) q_ → ¬ own a_4 q_ := apartNew (ge_new hl_38) ho_8.own_lt
      have pr_40 : ∀ q_, own (some ⟨b_34, 0, none⟩) q_ → ¬ boxS b_1 al_2 q_ := apartNew (ge_new hl_38) hO_19.own_lt
      have pr_41 : ∀ q_, own (some ⟨b_34, 0, none⟩) q_ → ¬ own aw q_ := apartNew (ge_new hl_38) ho_20.own_lt
      have pg_42 : ∀ q_, own (some ⟨b_34, 0, none⟩) q_ → w.heap.size ≤ q_ := fun q_ h => Nat.le_trans K0.size ((ge_new hl_38) q_ h)
      clear hl_38
      replace ho_8 := ho_8.ext K_36
      replace hO_19 := hO_19.ext K_36
      replace ho_20 := ho_20.ext K_36
      replace K0 := K0.ext K_36
      refine RL.st rfl <| St1.call (vals := [.pointer (some ⟨b_1, 0, none⟩), .int .i64 (now + d), .slice (some ⟨b_34, 0, none⟩) (([n, n] : List Int).length) (([n, n] : List Int).length)]) en18 rfl (dueB _ _ _ bl now (now + d) _ ([n, n] : List Int) _ _ hO_19 (by first | omega | decide) ho_37.sl (fun x hx hb => (fun q_ h1 h2 => pr_40 q_ h2 h1) _ hb ⟨x, hx, rfl⟩) (by simp) (by omega) hFew.1 (by omega) (by omega) (by omega)) ?_
      rintro _ w_45 ⟨a_43, c_44, rfl, ho_46, hg_47, hB_48, K_49⟩
      rw [(show max now (now + d) = now + d by omega)] at ho_46 hB_48 ⊢
      have pr_50 : ∀ q_, own a_43 q_ → ¬ own a_4 q_ := apartNew hg_47 ho_8.own_lt
      have pr_51 : ∀ q_, own a_43 q_ → ¬ boxS b_1 al_2 q_ := apartNew hg_47 hO_19.own_lt
      have pr_52 : ∀ q_, own a_43 q_ → ¬ own aw q_ := apartNew hg_47 ho_20.own_lt
      have pr_53 : ∀ q_, own a_43 q_ → ¬ own (some ⟨b_34, 0, none⟩) q_ := apartNew hg_47 ho_37.own_lt
      have pg_54 : ∀ q_, own a_43 q_ → w.heap.size ≤ q_ := fun q_ h => Nat.le_trans K0.size (hg_47 q_ h)
      clear hg_47
      replace ho_8 := ho_8.keepO K_49 (fun q_ h1 h2 => pr_21 q_ h2 h1)
      replace ho_20 := ho_20.keepO K_49 (fun q_ h1 h2 => pr_22 q_ h2 h1)
      replace ho_37 := ho_37.keepO K_49 pr_40
      replace K0 := K0.new K_49 pr_23
      replace hO_19 := hB_48
      clear hB_48
      refine RL.val (x_lenSl Try.underlying35 rfl) ?_
      refine RL.val (x_moveI rfl) ?_
      refine RL.nil ?_
      have hT8 := due_T (now + d) n bl
      refine Run.block ?_
      refine Run.loop (ι := Nat) (fun j ρ' w' => ∃ aw2 : Option Addr, ∃ cw2 : Nat, Holds ρ' [(7, .int .i64 (n)), (8, .pointer (some ⟨b_1, 0, none⟩)), (9, .slice (a_4) ((puts n keys).length) (c_5)), (10, .int .i64 (now + d)), (11, .slice (aw2) ((wl ++ List.replicate j (now + d)).length) (cw2)), (32, .slice (at0) (times.length) (ct0)), (33, .int .i64 (((times.length : Nat) : Int))), (34, .int .i64 (((i : Nat) : Int))), (35, .bool (decide (((i : Nat) : Int) < ((times.length : Nat) : Int)))), (53, .int .i64 (((((due (now + d) bl ([n, n] : List Int)).T).length : Nat) : Int))), (54, .int .i64 (((j : Nat) : Int)))] ∧ Ext w w' ∧ (OwnSl w' 42 (a_4) (c_5) (puts n keys)) ∧ (BoxAt w' b_1 al_2 cl_3 ((due (now + d) bl ([n, n] : List Int)).L) (now + d)) ∧ (OwnSl w' 3 (some ⟨b_34, 0, none⟩) (([n, n] : List Int).length) (([n, n] : List Int))) ∧ (OwnSl w' 42 (a_43) (c_44) ((due (now + d) bl ([n, n] : List Int)).T)) ∧ (OwnSl w' 3 aw2 cw2 (wl ++ List.replicate j (now + d))) ∧ (∀ q_, own aw2 q_ → ¬ own a_4 q_) ∧ (∀ q_, own aw2 q_ → ¬ boxS b_1 al_2 q_) ∧ (∀ q_, own aw2 q_ → ¬ own (some ⟨b_34, 0, none⟩) q_) ∧ (∀ q_, own aw2 q_ → ¬ own a_43 q_) ∧ (∀ q_, own aw2 q_ → w.heap.size ≤ q_) ∧ (j ≤ ((due (now + d) bl ([n, n] : List Int)).T).length)) (fun j => ((due (now + d) bl ([n, n] : List Int)).T).length - j) 0 ?_ ?_
      · rw [List.replicate_zero, List.append_nil]
        refine ⟨_, _, ⟨rfl, rfl, rfl, rfl, rfl, rfl, rfl, rfl, rfl, rfl, rfl, trivial⟩, K0, ho_8, hO_19, ho_37, ho_46, ho_20, pr_24, (fun q_ h1 h2 => pr_22 q_ h2 h1), (fun q_ h1 h2 => pr_41 q_ h2 h1), (fun q_ h1 h2 => pr_52 q_ h2 h1), pr_25, ?_⟩
        · omega
      clear ho_8 hO_19 ho_20 ho_37 ho_46
      clear K0
      rintro j ρ_63 w_55 ⟨aw2, cw2, hH_56, K0, ho_8, hO_19, ho_37, ho_46, ho_57, pr_58, pr_59, pr_60, pr_61, pr_62, hj⟩ ih2
      obtain ⟨ρ₀, rfl⟩ := hH_56.ex
      clear hH_56
      refine Run.seq ?_
      refine Run.region ?_
      refine RL.val (x_ltI rfl rfl) ?_
      refine RL.nil ?_
      refine Run.seq ?_
      refine Run.cond rfl (fun hc55 => ?_) (fun hc55 => ?_)
      · try simp only [br] at hc55
        refine Run.skip ?_
        refine Run.seq ?_
        refine Run.block ?_
        refine Run.region ?_
        refine RL.val (x_moveSl rfl) ?_
        refine RL.val (x_moveI rfl) ?_
        refine RL.st rfl <| St1.buildSlice ([now + d] : List Int) Try.underlying22 ty3 rfl rfl (by first | decide | (simp [Enc.size])) ?_
        intro b_64 w_65 hl_68 ho_67 K_66
        have pr_69 : ∀ q_, own (some ⟨b_64, 0, none⟩) q_ → ¬ own a_4 q_ := apartNew (ge_new hl_68) ho_8.own_lt
        have pr_70 : ∀ q_, own (some ⟨b_64, 0, none⟩) q_ → ¬ boxS b_1 al_2 q_ := apartNew (ge_new hl_68) hO_19.own_lt
        have pr_71 : ∀ q_, own (some ⟨b_64, 0, none⟩) q_ → ¬ own (some ⟨b_34, 0, none⟩) q_ := apartNew (ge_new hl_68) ho_37.own_lt
        have pr_72 : ∀ q_, own (some ⟨b_64, 0, none⟩) q_ → ¬ own a_43 q_ := apartNew (ge_new hl_68) ho_46.own_lt
        have pr_73 : ∀ q_, own (some ⟨b_64, 0, none⟩) q_ → ¬ own aw2 q_ := apartNew (ge_new hl_68) ho_57.own_lt
        have pg_74 : ∀ q_, own (some ⟨b_64, 0, none⟩) q_ → w.heap.size ≤ q_ := fun q_ h => Nat.le_trans K0.size ((ge_new hl_68) q_ h)
        clear hl_68
        replace ho_8 := ho_8.ext K_66
        replace hO_19 := hO_19.ext K_66
        replace ho_37 := ho_37.ext K_66
        replace ho_46 := ho_46.ext K_66
        replace ho_57 := ho_57.ext K_66
        replace K0 := K0.ext K_66
        refine RL.st rfl <| St1.append (xs := wl ++ List.replicate j (now + d)) (ys := ([now + d] : List Int)) Try.underlying22 ty3 rfl rfl rfl ho_57 ho_67.sl (by simp only [List.length_append, List.length_replicate, List.length_cons, List.length_nil]; omega) (by decide) ?_
        intro a_75 c_76 w_77 ho_78 K_79 hm_80 hrm_81
        have pr_82 : ∀ q_, own a_75 q_ → ¬ own a_4 q_ := hm_80.apart pr_58 ho_8.own_lt
        have pr_83 : ∀ q_, own a_75 q_ → ¬ boxS b_1 al_2 q_ := hm_80.apart pr_59 hO_19.own_lt
        have pr_84 : ∀ q_, own a_75 q_ → ¬ own (some ⟨b_34, 0, none⟩) q_ := hm_80.apart pr_60 ho_37.own_lt
        have pr_85 : ∀ q_, own a_75 q_ → ¬ own a_43 q_ := hm_80.apart pr_61 ho_46.own_lt
        have pr_86 : ∀ q_, own a_75 q_ → ¬ own (some ⟨b_64, 0, none⟩) q_ := hm_80.apart (fun q_ h1 h2 => pr_73 q_ h2 h1) ho_67.own_lt
        have pg_87 : ∀ q_, own a_75 q_ → w.heap.size ≤ q_ := hm_80.ge pr_62 K0.size
        replace ho_8 := ho_8.keepO K_79 (fun q_ h1 h2 => pr_58 q_ h2 h1)
        replace hO_19 := hO_19.keepO K_79 (fun q_ h1 h2 => pr_59 q_ h2 h1)
        replace ho_37 := ho_37.keepO K_79 (fun q_ h1 h2 => pr_60 q_ h2 h1)
        replace ho_46 := ho_46.keepO K_79 (fun q_ h1 h2 => pr_61 q_ h2 h1)
        replace ho_67 := ho_67.keepO K_79 pr_73
        replace K0 := K0.new K_79 pr_62
        clear hm_80
        clear hrm_81
        refine RL.val (x_assignSl rfl) ?_
        refine RL.nil ?_
        refine Run.inBlock ?_
        refine Run.region ?_
        refine RL.val (x_add rfl rfl (by omega) (by omega)) ?_
        refine RL.val (x_moveI rfl) ?_
        refine RL.nil ?_
        refine ih2 (j + 1) _ _ ?_ (by omega)
        rw [replicate_push]
        refine ⟨_, _, ⟨rfl, rfl, rfl, rfl, rfl, rfl, rfl, rfl, rfl, rfl, rfl, trivial⟩, K0, ho_8, hO_19, ho_37, ho_46, ho_78, pr_82, pr_83, pr_84, pr_85, pg_87, ?_⟩
        · omega
      · try simp only [br] at hc55
        refine Run.exit rfl ?_
        refine Run.seq ?_
        refine Run.region ?_
        refine RL.val (x_assignI rfl) ?_
        refine RL.nil ?_
        refine Run.seq ?_
        refine Run.seq ?_
        have hjl : j = ((due (now + d) bl ([n, n] : List Int)).T).length := by omega
        subst hjl
        have hw2 : ∀ w ∈ wl ++ List.replicate ((due (now + d) bl ([n, n] : List Int)).T).length (now + d), 0 ≤ w ∧ w ≤ now + d := by
          intro w hw
          rcases List.mem_append.1 hw with hw | hw
          · have := hwr w hw; omega
          · have := List.eq_of_mem_replicate hw; omega
        have hlw : (wl ++ List.replicate ((due (now + d) bl ([n, n] : List Int)).T).length (now + d)).length ≤ 8 * i + 8 := by simp only [List.length_append, List.length_replicate]; omega
        refine Run.region ?_
        refine RL.val (x_moveSl rfl) ?_
        refine RL.val (x_lenSl Try.underlying22 rfl) ?_
        refine RL.val (x_moveI rfl) ?_
        refine RL.nil ?_
        refine Run.block ?_
        refine Run.loop (ι := Nat) (fun k ρ' w' => Holds ρ' [(7, .int .i64 (n)), (8, .pointer (some ⟨b_1, 0, none⟩)), (9, .slice (a_4) ((puts n keys).length) (c_5)), (10, .int .i64 (now + d)), (11, .slice (aw2) ((wl ++ List.replicate ((due (now + d) bl ([n, n] : List Int)).T).length (now + d)).length) (cw2)), (14, .int .i64 (((((wl ++ List.replicate ((due (now + d) bl ([n, n] : List Int)).T).length (now + d)).take k).countP (fun w => decide (now + d - w < 1000)) : Nat) : Int))), (32, .slice (at0) (times.length) (ct0)), (33, .int .i64 (((times.length : Nat) : Int))), (34, .int .i64 (((i : Nat) : Int))), (35, .bool (decide (((i : Nat) : Int) < ((times.length : Nat) : Int)))), (61, .slice (aw2) ((wl ++ List.replicate ((due (now + d) bl ([n, n] : List Int)).T).length (now + d)).length) (cw2)), (62, .int .i64 ((((wl ++ List.replicate ((due (now + d) bl ([n, n] : List Int)).T).length (now + d)).length : Nat) : Int))), (63, .int .i64 (((k : Nat) : Int)))] ∧ Ext w w' ∧ (OwnSl w' 42 (a_4) (c_5) (puts n keys)) ∧ (BoxAt w' b_1 al_2 cl_3 ((due (now + d) bl ([n, n] : List Int)).L) (now + d)) ∧ (OwnSl w' 3 (some ⟨b_34, 0, none⟩) (([n, n] : List Int).length) (([n, n] : List Int))) ∧ (OwnSl w' 42 (a_43) (c_44) ((due (now + d) bl ([n, n] : List Int)).T)) ∧ (OwnSl w' 3 (aw2) (cw2) (wl ++ List.replicate ((due (now + d) bl ([n, n] : List Int)).T).length (now + d))) ∧ (k ≤ (wl ++ List.replicate ((due (now + d) bl ([n, n] : List Int)).T).length (now + d)).length)) (fun k => (wl ++ List.replicate ((due (now + d) bl ([n, n] : List Int)).T).length (now + d)).length - k) 0 ?_ ?_
        · rw [List.take_zero, List.countP_nil]
          refine ⟨⟨rfl, rfl, rfl, rfl, rfl, rfl, rfl, rfl, rfl, rfl, rfl, rfl, rfl, trivial⟩, K0, ho_8, hO_19, ho_37, ho_46, ho_57, ?_⟩
          · omega
        clear ho_8 hO_19 ho_37 ho_46 ho_57
        clear K0
        rintro k ρ_90 w_88 ⟨hH_89, K0, ho_8, hO_19, ho_37, ho_46, ho_57, hk⟩ ih3
        obtain ⟨ρ₀, rfl⟩ := hH_89.ex
        clear hH_89
        refine Run.seq ?_
        refine Run.region ?_
        refine RL.val (x_ltI rfl rfl) ?_
        refine RL.nil ?_
        refine Run.seq ?_
        refine Run.cond rfl (fun hc64 => ?_) (fun hc64 => ?_)
        · try simp only [br] at hc64
          refine Run.skip ?_
          refine Run.seq ?_
          refine Run.block ?_
          refine Run.seq ?_
          refine Run.region ?_
          obtain ⟨b_91, o_92, x, hx, ha_93, hc_94⟩ := ho_57.sl.el (i := k) (by omega)
          refine RL.val (x_idxN Try.underlying22 ty3 rfl rfl ha_93 (by omega)) ?_
          refine RL.val (x_ldV (v := .int .i64 (x)) (y := x) ty3 rfl hc_94 rfl) ?_
          refine RL.val (x_assignI rfl) ?_
          refine RL.nil ?_
          refine Run.seq ?_
          have hxr := hw2 x (mem_of_at hx)
          refine Run.region ?_
          refine RL.val (x_moveI rfl) ?_
          refine RL.val (x_moveI rfl) ?_
          refine RL.val (x_sub rfl rfl (by omega) (by omega)) ?_
          refine RL.val (x_ltI rfl rfl) ?_
          refine RL.nil ?_
          refine Run.cond rfl (fun hc70 => ?_) (fun hc70 => ?_)
          · try simp only [br] at hc70
            have hcp := List.countP_le_length (p := (fun w => decide (now + d - w < 1000))) (l := (wl ++ List.replicate ((due (now + d) bl ([n, n] : List Int)).T).length (now + d)).take k)
            have hlt := List.length_take_le k (wl ++ List.replicate ((due (now + d) bl ([n, n] : List Int)).T).length (now + d))
            refine Run.region ?_
            refine RL.val (x_moveI rfl) ?_
            refine RL.val (x_add rfl rfl (by omega) (by omega)) ?_
            refine RL.val (x_assignI rfl) ?_
            refine RL.nil ?_
            refine Run.inBlock ?_
            refine Run.region ?_
            refine RL.val (x_add rfl rfl (by omega) (by omega)) ?_
            refine RL.val (x_moveI rfl) ?_
            refine RL.nil ?_
            have e := countP_takeI (fun w => decide (now + d - w < 1000)) hx
            rw [if_pos (by simpa using hc70)] at e
            refine ih3 (k + 1) _ _ ?_ (by omega)
            rw [e]
            refine ⟨⟨rfl, rfl, rfl, rfl, rfl, rfl, rfl, rfl, rfl, rfl, rfl, rfl, rfl, trivial⟩, K0, ho_8, hO_19, ho_37, ho_46, ho_57, ?_⟩
            · omega
          · try simp only [br] at hc70
            refine Run.skip ?_
            refine Run.inBlock ?_
            refine Run.region ?_
            refine RL.val (x_add rfl rfl (by omega) (by omega)) ?_
            refine RL.val (x_moveI rfl) ?_
            refine RL.nil ?_
            have e := countP_takeI (fun w => decide (now + d - w < 1000)) hx
            rw [if_neg (by simpa using hc70)] at e
            refine ih3 (k + 1) _ _ ?_ (by omega)
            rw [e]
            refine ⟨⟨rfl, rfl, rfl, rfl, rfl, rfl, rfl, rfl, rfl, rfl, rfl, rfl, rfl, trivial⟩, K0, ho_8, hO_19, ho_37, ho_46, ho_57, ?_⟩
            · omega
        · try simp only [br] at hc64
          refine Run.exit rfl ?_
          refine Run.seq ?_
          have hkl : k = (wl ++ List.replicate ((due (now + d) bl ([n, n] : List Int)).T).length (now + d)).length := by omega
          subst hkl
          rw [List.take_length]
          have hF2 := hFew.step hd0 hnr
          have hc4 : (wl ++ List.replicate ((due (now + d) bl ([n, n] : List Int)).T).length (now + d)).countP (fun w => decide (now + d - w < 1000)) ≤ 4 := by rw [hF2.2.2.2.1 (now + d) (Int.le_refl _)]; exact hF2.2.2.1
          refine Run.region ?_
          refine RL.val (x_moveI rfl) ?_
          refine RL.val (x_gtI rfl rfl) ?_
          refine RL.val (x_moveB rfl) ?_
          refine RL.gval (wantedF rfl rfl rfl rfl) (fun hg => (x_moveSl rfl)) ?_
          refine RL.gval (wantedF rfl rfl rfl rfl) (fun hg => (x_lenSl Try.underlying22 (gvr hg))) ?_
          refine RL.gval (wantedF rfl rfl rfl rfl) (fun hg => (x_gtI (gvr hg) rfl)) ?_
          refine RL.gval (wantedF rfl rfl rfl rfl) (fun hg => (x_moveB (gvr hg))) ?_
          refine RL.gval (wantedGT rfl rfl rfl rfl) (fun hg => (x_moveSl rfl)) ?_
          refine RL.gval (wantedGT rfl rfl rfl rfl) (fun hg => (x_lenSl Try.underlying35 (gvr hg))) ?_
          refine RL.gval (wantedGT rfl rfl rfl rfl) (fun hg => (x_eqI (gvr hg) rfl)) ?_
          refine RL.gval (wantedF rfl rfl rfl rfl) (fun hg => (x_andG hg rfl rfl rfl)) ?_
          refine RL.val (x_or rfl rfl rfl) ?_
          refine RL.nil ?_
          refine Run.cond rfl (fun hc85 => ?_) (fun hc85 => ?_)
          · try simp only [br] at hc85
            rcases hc85 with h | h
            · exfalso; omega
            · have hL : (due (now + d) bl ([n, n] : List Int)).L = [] := List.eq_nil_of_length_eq_zero (by rw [due_L, hbl]; omega)
              have := hF2.2.2.2.2 hL
              rw [this] at h
              exact absurd h.1 (by simp)
          · try simp only [br] at hc85
            refine Run.skip ?_
            refine Run.inBlock ?_
            refine Run.region ?_
            refine RL.val (x_add rfl rfl (by omega) (by omega)) ?_
            refine RL.val (x_moveI rfl) ?_
            refine RL.nil ?_
            refine ih1 (i + 1) _ _ ?_ (by omega)
            refine ⟨_, _, _, _, _, ⟨rfl, rfl, rfl, rfl, rfl, rfl, rfl, rfl, trivial⟩, K0, ho_8, hO_19, ho_57, pr_21, (fun q_ h1 h2 => pr_59 q_ h2 h1), pr_23, pr_58, pr_62, ?_, ?_, ?_, ?_, ?_, ?_, ?_⟩
            · omega
            · exact hF2
            · omega
            · omega
            · rw [due_L]; exact hbl
            · rw [due_L]; exact hbl2
            · exact hw2
  · try simp only [br] at hc35
    refine Run.exit rfl ?_
    refine Run.seq ?_
    refine Run.region ?_
    refine RL.val (x_assignB rfl) ?_
    refine RL.nil ?_
    refine Run.ret1 (v := .bool (true)) Try.func5 rfl rfl ?_
    exact ⟨_, rfl, rfl, K0⟩

end Go.Proofs.Ytlediffjclploaa
