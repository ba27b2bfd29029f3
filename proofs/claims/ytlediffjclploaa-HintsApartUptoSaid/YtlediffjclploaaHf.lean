/-
  HintsAll.
-/
import Derived.Test.YtlediffjclploaaRows
import Derived.Test.YtlediffjclploaaHd
import Derived.Test.YtlediffjclploaaLoop
namespace Go.Proofs.Ytlediffjclploaa
attribute [local irreducible] St1 RL RA RT RT1 Run

theorem due1 (s n : Int) (l : List KeptM) (hn : 0 ≤ n ∧ n < 8) : (due s l [n]).L = (sndI s n l l.length).L ∧ (due s l [n]).T = (sndI s n l l.length).T := by
  have e1 : due s l [n] = ⟨(sndI s n l l.length).L, [] ++ (sndI s n l l.length).T, updB (fun _ => false) n.toNat true⟩ := (dueI_step (i := 0) (n := n) rfl).trans (dStep_yes hn rfl)
  rw [e1]; exact ⟨rfl, rfl⟩
def mkAt (t : Int) (l : List Hint) : List KeptM := l.map fun h => ⟨h, t⟩
theorem mk16_get (l : List Hint) (i : Nat) (hi : i < l.length) : (mk16 l)[i]? = some ⟨l[i], -1⟩ := by simp [mk16, hi]
theorem all_snd (t n : Int) (l : List Hint) (ho : ∀ h ∈ l, h.owner = n) : ∀ i, i ≤ l.length →
    sndI t n (mk16 l) i = ⟨mkAt t ((l.take i).take 4) ++ mk16 ((l.take i).drop 4), (l.take i).take 4, min i 4⟩ := by
  intro i
  induction i with
  | zero =>
    intro _
    have hc : (mk16 l).countP (onWay t n) = 0 := List.countP_eq_zero.2 fun k hk => by
      simp only [mk16, List.mem_map] at hk
      obtain ⟨h, _, rfl⟩ := hk
      simp [onWay, waitsB]
    simp only [sndI, List.take_zero, List.foldl_nil, hc]
    rfl
  | succ i ih =>
    intro hi
    rw [sndI_step (mk16_get l i (by omega)), ih (by omega)]
    have hown : l[i].owner = n := ho _ (List.getElem_mem _)
    have hw : waitsB t ⟨l[i], -1⟩ = false := by simp [waitsB]
    by_cases h4 : i < 4
    · rw [sStep_yes hown hw (by simp only; omega), List.take_succ_eq_append_getElem (show i < l.length by omega)]
      have e1 : (l.take i).take 4 = l.take i := List.take_of_length_le (by simp; omega)
      have e2 : (l.take i ++ [l[i]]).take 4 = l.take i ++ [l[i]] := List.take_of_length_le (by simp; omega)
      have e3 : (l.take i).drop 4 = [] := List.drop_eq_nil_of_le (by simp; omega)
      have e4 : (l.take i ++ [l[i]]).drop 4 = [] := List.drop_eq_nil_of_le (by simp; omega)
      rw [e1, e2, e3, e4, show min i 4 + 1 = min (i + 1) 4 by omega]
      simp only [mkAt, mk16, List.map_append, List.append_nil, List.map_nil]
      rfl
    · rw [sStep_no' (.inr (by simp only; omega)), List.take_succ_eq_append_getElem (show i < l.length by omega)]
      have hl : (l.take i).length = i := by simp; omega
      have e1 : (l.take i ++ [l[i]]).take 4 = (l.take i).take 4 := List.take_append_of_le_length (by omega)
      have e2 : (l.take i ++ [l[i]]).drop 4 = (l.take i).drop 4 ++ [l[i]] := List.drop_append_of_le_length (by omega)
      rw [e1, e2, show min i 4 = min (i + 1) 4 by omega]
      simp [mk16]
theorem drop4 (l : List Hint) : l.drop (l.take 4).length = l.drop 4 := by
  rw [List.length_take]
  by_cases h : 4 ≤ l.length
  · rw [Nat.min_eq_left h]
  · rw [Nat.min_eq_right (by omega), List.drop_eq_nil_of_le (Nat.le_refl _), List.drop_eq_nil_of_le (by omega)]
theorem all_due (t n : Int) (l : List Hint) (hn : 0 ≤ n ∧ n < 8) (ho : ∀ h ∈ l, h.owner = n) :
    (due t (mk16 l) [n]).T = l.take 4 ∧ (due t (mk16 l) [n]).L = mkAt t ((l.take 4).drop 0) ++ mk16 (l.drop (l.take 4).length) := by
  obtain ⟨e1, e2⟩ := due1 t n (mk16 l) hn
  rw [e1, e2, all_snd t n l ho _ (by rw [mk16_len]; exact Nat.le_refl _), mk16_len, List.take_length, drop4]
  exact ⟨rfl, rfl⟩
theorem all_drop {t : Int} {q r : List Hint} {j : Nat} {h : Hint} (hg : q[j]? = some h) (hE0 : hE h = 0) :
    dropE (mkAt t (q.drop j) ++ mk16 r) h = 0 ∧ dropL (mkAt t (q.drop j) ++ mk16 r) h = mkAt t (q.drop (j + 1)) ++ mk16 r := by
  obtain ⟨hj, rfl⟩ := List.getElem?_eq_some_iff.1 hg
  have e : mkAt t (q.drop j) ++ mk16 r = ⟨q[j], t⟩ :: (mkAt t (q.drop (j + 1)) ++ mk16 r) := by rw [List.drop_eq_getElem_cons hj]; rfl
  rw [e]
  have hx : (⟨q[j], t⟩ :: (mkAt t (q.drop (j + 1)) ++ mk16 r))[0]? = some (⟨q[j], t⟩ : KeptM) := rfl
  have hp : isH q[j] ⟨q[j], t⟩ = true := by simp [isH]
  exact ⟨dropE_in hE0 hx hp, by rw [dropL_in hE0 hx hp (NoB.zero _ _)]; rfl⟩
theorem all_has {t : Int} {q r : List Hint} {j : Nat} {h : Hint} (hg : q[j]? = some h) (hn : (q ++ r).Nodup) : (mkAt t (q.drop (j + 1)) ++ mk16 r).any (isH h) = false := by
  obtain ⟨hj, rfl⟩ := List.getElem?_eq_some_iff.1 hg
  have h1 : (q.drop j ++ r).Nodup := hn.sublist (List.Sublist.append_right (List.drop_sublist _ _) _)
  rw [List.drop_eq_getElem_cons hj, List.cons_append, List.nodup_cons] at h1
  rw [List.any_eq_false]
  intro k hk hp
  have hk' : k.h ∈ q.drop (j + 1) ++ r := by
    simp only [mkAt, mk16, List.mem_append, List.mem_map] at hk ⊢
    rcases hk with ⟨y, hy, rfl⟩ | ⟨y, hy, rfl⟩
    · exact .inl hy
    · exact .inr hy
  rw [isH_h hp] at hk'
  exact h1.1 hk'
/-- what put puts -/
def Fine (n : Int) (l : List Hint) : Prop := (∀ h ∈ l, h.owner = n ∧ isKey h.key = true) ∧ l.Nodup
theorem fine_puts (n : Int) (keys : List ByteArray) : ∀ i, i ≤ keys.length → Fine n (putsI n keys i) ∧ (putsI n keys i).length ≤ 256 := by
  intro i
  induction i with
  | zero => intro _; simp [putsI, Fine]
  | succ i ih =>
    intro hi
    obtain ⟨⟨h1, h2⟩, h3⟩ := ih (by omega)
    by_cases hl : 255 < i
    · rw [putsI_late hl]; exact ⟨⟨h1, h2⟩, h3⟩
    · have hle := putsI_len n keys i (by omega)
      rw [putsI_step hl (k := keys[i]'(by omega)) (by simp), pStep]
      split
      · rename_i hc
        simp only [Bool.and_eq_true, Bool.not_eq_true'] at hc
        refine ⟨⟨?_, ?_⟩, by simp; omega⟩
        · intro h hh
          simp only [List.mem_append, List.mem_singleton] at hh
          rcases hh with hh | rfl
          · exact h1 h hh
          · exact ⟨rfl, hc.1⟩
        · rw [List.nodup_append]
          refine ⟨h2, by simp, ?_⟩
          intro a ha b hb e
          simp only [List.mem_singleton] at hb
          subst hb; subst e
          have := List.any_eq_false.1 hc.2 _ ha
          simp at this
      · exact ⟨⟨h1, h2⟩, h3⟩
theorem Fine.hE0 {n : Int} {l : List Hint} (h : Fine n l) (hn : 0 ≤ n ∧ n < 8) {x : Hint} (hx : x ∈ l) : hE x = 0 := Go.Proofs.Ytlediffjclploaa.hE0 (by rw [(h.1 x hx).1]; exact hn) (h.1 x hx).2
theorem Fine.drop {n : Int} {l : List Hint} (h : Fine n l) (k : Nat) : Fine n (l.drop k) := ⟨fun x hx => h.1 x (List.mem_of_mem_drop hx), h.2.sublist (List.drop_sublist _ _)⟩
theorem mk16_past (l : List Hint) {t : Int} (h : 0 ≤ t) : Past (mk16 l) t := by
  intro k hk
  simp only [mk16, List.mem_map] at hk
  obtain ⟨h, _, rfl⟩ := hk
  show (-1 : Int) ≤ t
  omega
theorem all_end (t n : Int) (hn : 0 ≤ n ∧ n < 8) : (due t (mk16 []) [n]).T = [] ∧ (due t (mk16 []) [n]).L = [] := all_due t n [] hn (by simp)
theorem split4 (l : List Hint) : l.take 4 ++ l.drop (l.take 4).length = l := by rw [drop4]; exact List.take_append_drop _ _

theorem key_size {s : ByteArray} (h : isKey s = true) : s.size ≤ 4294967295 := by
  simp only [isKey, Bool.and_eq_true, decide_eq_true_eq] at h
  omega

theorem all_hasC {t : Int} {q r : List Hint} {j : Nat} {h : Hint} {w : World} {b : Nat} {al : Option Addr} {cl : Nat} {now : Int} (hg : q[j]? = some h) (hn : (q ++ r).Nodup) (hB : BoxAt w b al cl (mkAt t (q.drop (j + 1)) ++ mk16 r) now) (hl : (mkAt t (q.drop (j + 1)) ++ mk16 r).length ≤ 4294967295) :
    Calls Try.prog 23 #[.pointer (some ⟨b, 0, none⟩), .agg #[.int .i64 h.owner, .string h.key]] w (Ret fun v w' => v = .bool false ∧ Ext w w') := by
  have h := hasB b al cl _ now h w hB.blk hB.own.sl hl
  rw [all_has hg hn] at h
  exact h

theorem en22 : Enters Try.prog 22 := enters_of Try.func22 rfl (by kernel_rfl)
theorem en24 : Enters Try.prog 24 := enters_of Try.func24 rfl (by kernel_rfl)

set_option maxHeartbeats 4000000 in
theorem law_all (ow : Int) (ak : Option Addr) (keys : List ByteArray) (ck : Nat) (w : World) (h0 : SlOf w ak keys) (hl0 : keys.length ≤ 1048576) (how : 0 ≤ ow) (hkz : ∀ k ∈ keys, k.size ≤ 4294967295) :
    Calls Try.prog 9 #[.int .u64 (ow), .slice (ak) (keys.length) (ck)] w (Ret (fun v w' => v = .bool true ∧ Ext w w')) := by
  obtain ⟨n, hne, hnr⟩ := few_n ow how
  obtain ⟨hf0, hf1⟩ := fine_puts n keys keys.length (Nat.le_refl _)
  refine calls_run (n := 80) Try.func9 rfl rfl rfl ?_
  refine Run.seq ?_
  refine Run.region ?_
  refine RL.val (x_assignB rfl) ?_
  refine RL.nil ?_
  refine Run.seq ?_
  refine Run.region ?_
  refine RL.val (x_moveI rfl) ?_
  refine RL.val (x_rem rfl rfl (by decide)) ?_
  refine RL.val (litI (x_convI rfl ⟨_, Try.underlying32⟩ Try.underlying3) hne) ?_
  refine RL.val (x_assignI rfl) ?_
  refine RL.nil ?_
  refine Run.seq ?_
  refine Run.region ?_
  refine RL.val (x_moveI rfl) ?_
  refine RL.val (x_moveSl rfl) ?_
  refine RL.st rfl <| St1.call (vals := [.int .i64 (n), .slice (ak) (keys.length) (ck)]) en16 rfl (put16 _ _ _ _ _ h0 (by omega) hnr hkz) ?_
  rintro _ w_6 ⟨b_1, al_2, cl_3, a_4, c_5, rfl, hB_7, ho_8, hg_9, hg_10, pr_11, K_12⟩
  have pg_13 : ∀ q_, boxS b_1 al_2 q_ → w.heap.size ≤ q_ := fun q_ h => Nat.le_trans (Nat.le_refl _) (hg_9 q_ h)
  have pg_14 : ∀ q_, own a_4 q_ → w.heap.size ≤ q_ := fun q_ h => Nat.le_trans (Nat.le_refl _) (hg_10 q_ h)
  clear hg_9 hg_10
  have K0 := (K_12 : Ext w _)
  refine RL.val (x_moveT rfl) ?_
  refine RL.val (x_extract rfl rfl) ?_
  refine RL.val (x_extract rfl rfl) ?_
  refine RL.val (x_assignP rfl) ?_
  refine RL.val (x_assignSl rfl) ?_
  refine RL.nil ?_
  refine Run.seq ?_
  refine Run.seq ?_
  refine Run.region ?_
  refine RL.val (x_moveP rfl) ?_
  refine RL.val (litF (x_ptrNil Try.underlying34 rfl rfl) rfl) ?_
  refine RL.val (x_moveB rfl) ?_
  refine RL.gst (wantedF1 rfl rfl rfl rfl) <| St1.call (vals := []) en17 rfl (awake16 _) ?_
  rintro _ w_15 ⟨rfl, K_16⟩
  replace hB_7 := hB_7.ext K_16
  replace ho_8 := ho_8.ext K_16
  replace K0 := K0.ext K_16
  refine RL.gst (wantedF1 rfl rfl rfl rfl) <| St1.val (x_not rfl) ?_
  refine RL.val (x_orF rfl rfl rfl) ?_
  refine RL.nil ?_
  refine Run.condF rfl ?_
  refine Run.skip ?_
  refine Run.seq ?_
  refine Run.seq ?_
  refine Run.region ?_
  refine RL.val (x_assignI rfl) ?_
  refine RL.nil ?_
  refine Run.block ?_
  refine Run.loop (ι := Nat) (fun k ρ' w' => ∃ ll : List Hint, ∃ nw : Int, ∃ alb : Option Addr, ∃ clb : Nat, ∃ ap : Option Addr, ∃ cp : Nat, Holds ρ' [(5, .int .i64 (n)), (6, .pointer (some ⟨b_1, 0, none⟩)), (7, .slice (ap) ((ll).length) (cp)), (8, .int .i64 (((k : Nat) : Int)))] ∧ Ext w w' ∧ (OwnSl w' 42 (a_4) (c_5) (puts n keys)) ∧ (BoxAt w' b_1 alb clb (mk16 ll) nw) ∧ (SlOf w' ap (ll)) ∧ (∀ q_, ap = some q_ → own a_4 q_.block) ∧ (∀ q_, boxS b_1 alb q_ → ¬ own a_4 q_) ∧ (∀ q_, boxS b_1 alb q_ → w.heap.size ≤ q_) ∧ (k + ll.length ≤ 1048576) ∧ (Fine n ll) ∧ (0 ≤ nw ∧ nw ≤ 1000 * (k : Int)) ∧ (ll.length ≤ cp)) (fun k => 1048576 - k) 0 ?_ ?_
  · refine ⟨_, _, _, _, _, _, ⟨rfl, rfl, rfl, rfl, trivial⟩, K0, ho_8, hB_7, ho_8.sl, (own_sub _), pr_11, pg_13, ?_, ?_, ?_, ?_⟩
    · exact Nat.le_trans (Nat.le_of_eq (Nat.zero_add _)) (Nat.le_trans hf1 (by decide))
    · exact hf0
    · omega
    · exact ho_8.le_cap
  clear hB_7 ho_8
  clear K0
  rintro k ρ_24 w_17 ⟨ll, nw, alb, clb, ap, cp, hH_18, K0, ho_8, hO_19, hs_20, hu_21, pr_22, pr_23, hkl, hfi, hnw, hcap⟩ ih1
  obtain ⟨ρ₀, rfl⟩ := hH_18.ex
  clear hH_18
  refine Run.seq ?_
  refine Run.seq ?_
  refine Run.region ?_
  refine RL.val (x_moveSl rfl) ?_
  refine RL.val (x_lenSl Try.underlying35 rfl) ?_
  refine RL.val (x_gtI rfl rfl) ?_
  refine RL.nil ?_
  refine Run.cond rfl (fun hc30 => ?_) (fun hc30 => ?_)
  · try simp only [br] at hc30
    refine Run.skip ?_
    refine Run.seq ?_
    refine Run.block ?_
    refine Run.seq ?_
    have hlt4 : (ll.take 4).length ≤ 4 := by rw [List.length_take]; omega
    have hlt5 : (ll.take 4).length ≤ ll.length := by rw [List.length_take]; omega
    have hlt6 : 1 ≤ (ll.take 4).length := by rw [List.length_take]; omega
    have hmk := mk16_len ll
    refine Run.region ?_
    refine RL.val (x_moveP rfl) ?_
    refine RL.val (x_moveI rfl) ?_
    refine RL.val (x_mul rfl rfl (by omega) (by omega)) ?_
    refine RL.val (x_moveI rfl) ?_
    refine RL.st rfl <| St1.buildSlice ([n] : List Int) Try.underlying22 ty3 rfl rfl (by first | decide | (simp [Enc.size])) ?_
    intro b_25 w_26 hl_29 ho_28 K_27
    have pr_30 : ∀ q_, own (some ⟨b_25, 0, none⟩) q_ → ¬ own a_4 q_ := apartNew (ge_new hl_29) ho_8.own_lt
    have pr_31 : ∀ q_, own (some ⟨b_25, 0, none⟩) q_ → ¬ boxS b_1 alb q_ := apartNew (ge_new hl_29) hO_19.own_lt
    have pg_32 : ∀ q_, own (some ⟨b_25, 0, none⟩) q_ → w.heap.size ≤ q_ := fun q_ h => Nat.le_trans K0.size ((ge_new hl_29) q_ h)
    clear hl_29
    replace ho_8 := ho_8.ext K_27
    replace hO_19 := hO_19.ext K_27
    replace hs_20 := hs_20.ext K_27
    replace K0 := K0.ext K_27
    refine RL.st rfl <| St1.call (vals := [.pointer (some ⟨b_1, 0, none⟩), .int .i64 (1000 * ((k : Nat) : Int)), .slice (some ⟨b_25, 0, none⟩) (([n] : List Int).length) (([n] : List Int).length)]) en18 rfl (dueB _ _ _ (mk16 ll) nw (1000 * ((k : Nat) : Int)) _ ([n] : List Int) _ _ hO_19 (by first | omega | decide) ho_28.sl (fun x hx hb => (fun q_ h1 h2 => pr_31 q_ h2 h1) _ hb ⟨x, hx, rfl⟩) (by simp) (by rw [mk16_len]; omega) (mk16_past ll hnw.1) (by omega) (by omega) (by omega)) ?_
    rintro _ w_35 ⟨a_33, c_34, rfl, ho_36, hg_37, hB_38, K_39⟩
    rw [show max nw (1000 * ((k : Nat) : Int)) = (1000 * (k : Int)) by omega] at ho_36 hB_38 ⊢
    rw [(all_due (1000 * (k : Int)) n ll hnr (fun h hh => (hfi.1 h hh).1)).1] at ho_36 ⊢
    rw [(all_due (1000 * (k : Int)) n ll hnr (fun h hh => (hfi.1 h hh).1)).2] at hB_38
    have pr_40 : ∀ q_, own a_33 q_ → ¬ own a_4 q_ := apartNew hg_37 ho_8.own_lt
    have pr_41 : ∀ q_, own a_33 q_ → ¬ boxS b_1 alb q_ := apartNew hg_37 hO_19.own_lt
    have pr_42 : ∀ q_, own a_33 q_ → ¬ own (some ⟨b_25, 0, none⟩) q_ := apartNew hg_37 ho_28.own_lt
    have pg_43 : ∀ q_, own a_33 q_ → w.heap.size ≤ q_ := fun q_ h => Nat.le_trans K0.size (hg_37 q_ h)
    clear hg_37
    replace ho_8 := ho_8.keepO K_39 (fun q_ h1 h2 => pr_22 q_ h2 h1)
    replace hs_20 := hs_20.keep K_39 (fun q_ hq_ h_ => (fun q_ h1 h2 => pr_22 q_ h2 h1) _ (hu_21 q_ hq_) h_)
    replace ho_28 := ho_28.keepO K_39 pr_31
    replace K0 := K0.new K_39 pr_23
    replace hO_19 := hB_38
    clear hB_38
    refine RL.val (x_assignSl rfl) ?_
    refine RL.nil ?_
    refine Run.seq ?_
    refine Run.region ?_
    refine RL.val (x_moveSl rfl) ?_
    refine RL.val (x_moveSl rfl) ?_
    refine RL.val (x_lenSl Try.underlying35 rfl) ?_
    refine RL.val (litI (c := ((min ll.length 4 : Nat) : Int)) (x_minI rfl rfl) (by omega)) ?_
    refine RL.val (litSl (m' := (ll.take 4).length) (x_sliceTo Try.underlying35 ty42 rfl rfl (by omega)) (by rw [List.length_take]; omega)) ?_
    refine RL.val (x_assignSl rfl) ?_
    refine RL.nil ?_
    refine Run.seq ?_
    refine Run.seq ?_
    refine Run.region ?_
    refine RL.val (x_moveSl rfl) ?_
    refine RL.val (x_moveSl rfl) ?_
    refine RL.st rfl <| St1.call (vals := [.slice (a_33) (((ll.take 4)).length) (c_34), .slice (ap) ((ll.take 4).length) (cp)]) en20 rfl (equal_hint _ _ _ _ _ _ _ ho_36.sl (hs_20.take 4) (by omega)) ?_
    rintro _ w_44 ⟨rfl, K_45⟩
    replace ho_8 := ho_8.ext K_45
    replace hO_19 := hO_19.ext K_45
    replace hs_20 := hs_20.ext K_45
    replace ho_28 := ho_28.ext K_45
    replace ho_36 := ho_36.ext K_45
    replace K0 := K0.ext K_45
    refine RL.val (litF (x_not rfl) (by simp)) ?_
    refine RL.nil ?_
    refine Run.condF rfl ?_
    refine Run.skip ?_
    refine Run.seq ?_
    refine Run.seq ?_
    refine Run.region ?_
    refine RL.val (x_moveSl rfl) ?_
    refine RL.val (x_lenSl Try.underlying35 rfl) ?_
    refine RL.val (x_moveI rfl) ?_
    refine RL.nil ?_
    refine Run.block ?_
    refine Run.loop (ι := Nat) (fun j ρ' w' => ∃ alc : Option Addr, ∃ clc : Nat, Holds ρ' [(5, .int .i64 (n)), (6, .pointer (some ⟨b_1, 0, none⟩)), (7, .slice (ap) ((ll).length) (cp)), (8, .int .i64 (((k : Nat) : Int))), (10, .slice (ap) ((ll.take 4).length) (cp)), (28, .slice (ap) ((ll).length) (cp)), (29, .int .i64 ((((ll).length : Nat) : Int))), (30, .bool (decide (0 < (((ll).length : Nat) : Int)))), (48, .slice (a_33) (((ll.take 4)).length) (c_34)), (49, .int .i64 (((((ll.take 4)).length : Nat) : Int))), (50, .int .i64 (((j : Nat) : Int)))] ∧ Ext w w' ∧ (OwnSl w' 42 (a_4) (c_5) (puts n keys)) ∧ (OwnSl w' 3 (some ⟨b_25, 0, none⟩) (([n] : List Int).length) (([n] : List Int))) ∧ (OwnSl w' 42 (a_33) (c_34) ((ll.take 4))) ∧ (BoxAt w' b_1 alc clc (mkAt (1000 * (k : Int)) ((ll.take 4).drop j) ++ mk16 (ll.drop (ll.take 4).length)) (1000 * (k : Int))) ∧ (SlOf w' ap (ll)) ∧ (∀ q_, boxS b_1 alc q_ → ¬ own a_4 q_) ∧ (∀ q_, boxS b_1 alc q_ → ¬ own (some ⟨b_25, 0, none⟩) q_) ∧ (∀ q_, boxS b_1 alc q_ → ¬ own a_33 q_) ∧ (∀ q_, boxS b_1 alc q_ → w.heap.size ≤ q_) ∧ (j ≤ (ll.take 4).length)) (fun j => (ll.take 4).length - j) 0 ?_ ?_
    · refine ⟨_, _, ⟨rfl, rfl, rfl, rfl, rfl, rfl, rfl, rfl, rfl, rfl, rfl, trivial⟩, K0, ho_8, ho_28, ho_36, hO_19, hs_20, pr_22, (fun q_ h1 h2 => pr_31 q_ h2 h1), (fun q_ h1 h2 => pr_41 q_ h2 h1), pr_23, ?_⟩
      · omega
    clear ho_8 hO_19 hs_20 ho_28 ho_36
    clear K0
    rintro j ρ_53 w_46 ⟨alc, clc, hH_47, K0, ho_8, ho_28, ho_36, hO_48, hs_20, pr_49, pr_50, pr_51, pr_52, hj⟩ ih2
    obtain ⟨ρ₀, rfl⟩ := hH_47.ex
    clear hH_47
    refine Run.seq ?_
    refine Run.region ?_
    refine RL.val (x_ltI rfl rfl) ?_
    refine RL.nil ?_
    refine Run.seq ?_
    refine Run.cond rfl (fun hc51 => ?_) (fun hc51 => ?_)
    · try simp only [br] at hc51
      refine Run.skip ?_
      refine Run.seq ?_
      refine Run.block ?_
      refine Run.seq ?_
      refine Run.region ?_
      obtain ⟨b_54, o_55, h, hx, ha_56, hc_57⟩ := ho_36.sl.el (i := j) (by omega)
      refine RL.val (x_idxN Try.underlying35 ty42 rfl rfl ha_56 (by omega)) ?_
      refine RL.val (x_ldV (v := .agg #[.int .i64 ((h).owner), .string ((h).key)]) (y := h) ty42 rfl hc_57 rfl) ?_
      refine RL.st rfl <| St1.alloc ty42 ?_
      intro b_60 w_61 hl_64 hb_63 K_62
      replace hb_63 : Blk w_61 b_60 [.int .i64 (0), .string (⟨#[]⟩)] 42 := hb_63
      have ne_65 : b_54 < b_60 := Nat.lt_of_lt_of_le hc_57.lt hl_64
      have pr_66 : ¬ own a_4 b_60 := fun h => absurd (ho_8.own_lt _ h) (by omega)
      have pr_67 : ¬ own (some ⟨b_25, 0, none⟩) b_60 := fun h => absurd (ho_28.own_lt _ h) (by omega)
      have pr_68 : ¬ own a_33 b_60 := fun h => absurd (ho_36.own_lt _ h) (by omega)
      have pr_69 : ¬ boxS b_1 alc b_60 := fun h => absurd (hO_48.own_lt _ h) (by omega)
      have : w.heap.size ≤ b_60 := Nat.le_trans K0.size hl_64
      clear hl_64
      replace ho_8 := ho_8.ext K_62
      replace ho_28 := ho_28.ext K_62
      replace ho_36 := ho_36.ext K_62
      replace hO_48 := hO_48.ext K_62
      replace hs_20 := hs_20.ext K_62
      replace hc_57 := hc_57.ext K_62
      replace K0 := K0.ext K_62
      refine RL.st rfl <| St1.store (v := .agg #[.int .i64 ((h).owner), .string ((h).key)]) ty42 rfl rfl rfl (by simp [Value.cells, Value.oneCell']) hb_63 (by simp) ?_
      intro w_70 hb_63_ K_71
      have hb_63' : Blk w_70 b_60 [.int .i64 ((h).owner), .string ((h).key)] 42 := hb_63_
      clear hb_63_
      replace ho_8 := ho_8.keepO K_71 (fun q_ hq_ eq_ => pr_66 (by simp only [one] at eq_; rw [← eq_]; exact hq_))
      replace ho_28 := ho_28.keepO K_71 (fun q_ hq_ eq_ => pr_67 (by simp only [one] at eq_; rw [← eq_]; exact hq_))
      replace ho_36 := ho_36.keepO K_71 (fun q_ hq_ eq_ => pr_68 (by simp only [one] at eq_; rw [← eq_]; exact hq_))
      replace hO_48 := hO_48.keepO K_71 (fun q_ hq_ eq_ => pr_69 (by simp only [one] at eq_; rw [← eq_]; exact hq_))
      replace hs_20 := hs_20.keep K_71 (fun q_ hq_ eq_ => pr_66 (by simp only [one] at eq_; rw [← eq_]; exact hu_21 q_ hq_))
      replace hc_57 := hc_57.keep K_71 (fun e => pr_68 (by simp only [one] at e; rw [← e]; exact (own_sub _) _ ha_56))
      replace K0 := K0.new K_71 (fun x hx => by simp only [one] at hx; omega)
      replace hb_63 := hb_63'
      clear hb_63'
      refine RL.nil ?_
      have hx1 := hfi.1 h (List.mem_of_mem_take (mem_of_at hx))
      have hx0 := hfi.hE0 hnr (List.mem_of_mem_take (mem_of_at hx))
      have hks : h.key.size ≤ 4294967295 := key_size hx1.2
      refine Run.seq ?_
      refine Run.region ?_
      refine RL.val (x_moveP rfl) ?_
      refine RL.val (x_lds (cs := #[.int .i64 ((h).owner), .string ((h).key)]) ty42 rfl rfl (hb_63.cl.drop 0 2)) ?_
      have hmr : (mk16 (ll.drop (ll.take 4).length)).length ≤ 1048576 := by rw [mk16_len, List.length_drop]; omega
      have hma : (mkAt (1000 * (k : Int)) ((ll.take 4).drop j) ++ mk16 (ll.drop (ll.take 4).length)).length ≤ 1048580 := by simp only [mkAt, List.length_append, List.length_map, List.length_drop]; omega
      refine RL.st rfl <| St1.call (vals := [.pointer (some ⟨b_1, 0, none⟩), .agg #[.int .i64 ((h).owner), .string ((h).key)]]) en22 rfl (dropB _ _ _ (mkAt (1000 * (k : Int)) ((ll.take 4).drop j) ++ mk16 (ll.drop (ll.take 4).length)) (1000 * (k : Int)) h _ hO_48 (by first | omega | decide) (by first | omega | decide)) ?_
      rintro _ w_74 ⟨al_72, cl_73, rfl, hB_75, hm_76, K_77⟩
      obtain ⟨e1, e2⟩ := all_drop (t := (1000 * (k : Int))) (r := ll.drop (ll.take 4).length) hx hx0
      rw [e1]
      rw [e2] at hB_75
      clear e1 e2
      have pr_79 : ∀ q_, boxS b_1 al_72 q_ → ¬ own a_4 q_ := hm_76.apart pr_49 ho_8.own_lt
      have pr_80 : ∀ q_, boxS b_1 al_72 q_ → ¬ own (some ⟨b_25, 0, none⟩) q_ := hm_76.apart pr_50 ho_28.own_lt
      have pr_81 : ∀ q_, boxS b_1 al_72 q_ → ¬ own a_33 q_ := hm_76.apart pr_51 ho_36.own_lt
      have pr_82 : ¬ boxS b_1 al_72 b_60 := hm_76.not pr_69 hb_63.lt
      have pg_83 : ∀ q_, boxS b_1 al_72 q_ → w.heap.size ≤ q_ := hm_76.ge pr_52 K0.size
      replace ho_8 := ho_8.keepO K_77 (fun q_ h1 h2 => pr_49 q_ h2 h1)
      replace ho_28 := ho_28.keepO K_77 (fun q_ h1 h2 => pr_50 q_ h2 h1)
      replace ho_36 := ho_36.keepO K_77 (fun q_ h1 h2 => pr_51 q_ h2 h1)
      replace hs_20 := hs_20.keep K_77 (fun q_ hq_ h_ => (fun q_ h1 h2 => pr_49 q_ h2 h1) _ (hu_21 q_ hq_) h_)
      replace hb_63 := hb_63.keep K_77 pr_69
      replace K0 := K0.new K_77 pr_52
      clear hm_76
      refine RL.val (litF (x_neI rfl rfl) (by decide)) ?_
      refine RL.val (x_moveB rfl) ?_
      refine RL.gst (wantedF1 rfl rfl rfl rfl) <| St1.val (x_moveP rfl) ?_
      refine RL.gst (wantedF1 rfl rfl rfl rfl) <| St1.val (x_lds (cs := #[.int .i64 ((h).owner), .string ((h).key)]) ty42 rfl rfl (hb_63.cl.drop 0 2)) ?_
      refine RL.gst (wantedF1 rfl rfl rfl rfl) <| St1.call (vals := [.pointer (some ⟨b_1, 0, none⟩), .agg #[.int .i64 ((h).owner), .string ((h).key)]]) en23 rfl (all_hasC (r := ll.drop (ll.take 4).length) hx (by rw [split4]; exact hfi.2) hB_75 (by simp only [mkAt, List.length_append, List.length_map, List.length_drop] at hma ⊢; omega)) ?_
      rintro _ w_84 ⟨rfl, K_85⟩
      replace ho_8 := ho_8.ext K_85
      replace ho_28 := ho_28.ext K_85
      replace ho_36 := ho_36.ext K_85
      replace hs_20 := hs_20.ext K_85
      replace hb_63 := hb_63.ext K_85
      replace hB_75 := hB_75.ext K_85
      replace K0 := K0.ext K_85
      refine RL.val (x_orF rfl rfl rfl) ?_
      refine RL.nil ?_
      refine Run.condF rfl ?_
      refine Run.skip ?_
      refine Run.inBlock ?_
      refine Run.region ?_
      refine RL.val (x_add rfl rfl (by omega) (by omega)) ?_
      refine RL.val (x_moveI rfl) ?_
      refine RL.nil ?_
      refine ih2 (j + 1) _ _ ?_ (by omega)
      refine ⟨_, _, ⟨rfl, rfl, rfl, rfl, rfl, rfl, rfl, rfl, rfl, rfl, rfl, trivial⟩, K0, ho_8, ho_28, ho_36, hB_75, hs_20, pr_79, pr_80, pr_81, pg_83, ?_⟩
      · omega
    · try simp only [br] at hc51
      refine Run.exit rfl ?_
      refine Run.region ?_
      refine RL.val (x_moveSl rfl) ?_
      refine RL.val (x_moveSl rfl) ?_
      refine RL.val (x_lenSl Try.underlying35 rfl) ?_
      refine RL.val (x_sliceFrom (xs := ll) Try.underlying35 ty42 rfl rfl (by omega)) ?_
      refine RL.val (x_assignSl rfl) ?_
      refine RL.nil ?_
      refine Run.inBlock ?_
      refine Run.region ?_
      refine RL.val (x_moveI rfl) ?_
      refine RL.val (x_add rfl rfl (by omega) (by omega)) ?_
      refine RL.val (x_assignI rfl) ?_
      refine RL.nil ?_
      have hjl : j = (ll.take 4).length := by omega
      subst hjl
      rw [List.drop_length] at *
      refine ih1 (k + 1) _ _ ?_ (by omega)
      refine ⟨_, _, _, _, _, _, ⟨rfl, rfl, rfl, rfl, trivial⟩, K0, ho_8, hO_48, (hs_20.from ((ll.take 4).length) cp hcap), (adv_sub hu_21), pr_49, pr_52, ?_, ?_, ?_, ?_⟩
      · rw [List.length_drop]; omega
      · exact hfi.drop _
      · omega
      · rw [List.length_drop]; omega
  · try simp only [br] at hc30
    refine Run.exit rfl ?_
    refine Run.seq ?_
    have hl0 : ll = [] := List.eq_nil_of_length_eq_zero (by omega)
    subst hl0
    refine Run.region ?_
    refine RL.val (x_moveP rfl) ?_
    refine RL.val (x_moveI rfl) ?_
    refine RL.st rfl <| St1.buildSlice ([n] : List Int) Try.underlying22 ty3 rfl rfl (by first | decide | (simp [Enc.size])) ?_
    intro b_86 w_87 hl_90 ho_89 K_88
    have pr_91 : ∀ q_, own (some ⟨b_86, 0, none⟩) q_ → ¬ own a_4 q_ := apartNew (ge_new hl_90) ho_8.own_lt
    have pr_92 : ∀ q_, own (some ⟨b_86, 0, none⟩) q_ → ¬ boxS b_1 alb q_ := apartNew (ge_new hl_90) hO_19.own_lt
    have pg_93 : ∀ q_, own (some ⟨b_86, 0, none⟩) q_ → w.heap.size ≤ q_ := fun q_ h => Nat.le_trans K0.size ((ge_new hl_90) q_ h)
    clear hl_90
    replace ho_8 := ho_8.ext K_88
    replace hO_19 := hO_19.ext K_88
    replace hs_20 := hs_20.ext K_88
    replace K0 := K0.ext K_88
    refine RL.st rfl <| St1.call (vals := [.pointer (some ⟨b_1, 0, none⟩), .int .i64 (1099511627776), .slice (some ⟨b_86, 0, none⟩) (([n] : List Int).length) (([n] : List Int).length)]) en18 rfl (dueB _ _ _ (mk16 []) nw 1099511627776 _ ([n] : List Int) _ _ hO_19 (by first | omega | decide) ho_89.sl (fun x hx hb => (fun q_ h1 h2 => pr_92 q_ h2 h1) _ hb ⟨x, hx, rfl⟩) (by simp) (by decide) (mk16_past [] hnw.1) (by omega) (by omega) (by omega)) ?_
    rintro _ w_96 ⟨a_94, c_95, rfl, ho_97, hg_98, hB_99, K_100⟩
    rw [show max nw 1099511627776 = 1099511627776 by omega] at ho_97 hB_99 ⊢
    rw [(all_end 1099511627776 n hnr).1] at ho_97 ⊢
    rw [(all_end 1099511627776 n hnr).2] at hB_99
    have pr_101 : ∀ q_, own a_94 q_ → ¬ own a_4 q_ := apartNew hg_98 ho_8.own_lt
    have pr_102 : ∀ q_, own a_94 q_ → ¬ boxS b_1 alb q_ := apartNew hg_98 hO_19.own_lt
    have pr_103 : ∀ q_, own a_94 q_ → ¬ own (some ⟨b_86, 0, none⟩) q_ := apartNew hg_98 ho_89.own_lt
    have pg_104 : ∀ q_, own a_94 q_ → w.heap.size ≤ q_ := fun q_ h => Nat.le_trans K0.size (hg_98 q_ h)
    clear hg_98
    replace ho_8 := ho_8.keepO K_100 (fun q_ h1 h2 => pr_22 q_ h2 h1)
    replace hs_20 := hs_20.keep K_100 (fun q_ hq_ h_ => (fun q_ h1 h2 => pr_22 q_ h2 h1) _ (hu_21 q_ hq_) h_)
    replace ho_89 := ho_89.keepO K_100 pr_92
    replace K0 := K0.new K_100 pr_23
    replace hO_19 := hB_99
    clear hB_99
    refine RL.val (x_lenSl Try.underlying35 rfl) ?_
    refine RL.val (litT (x_eqI rfl rfl) rfl) ?_
    refine RL.val (x_moveB rfl) ?_
    refine RL.gst (wantedT1 rfl rfl rfl rfl) <| St1.val (x_moveP rfl) ?_
    refine RL.gst (wantedT1 rfl rfl rfl rfl) <| St1.call (vals := [.pointer (some ⟨b_1, 0, none⟩)]) en24 rfl (hintsB _ _ _ [] 1099511627776 _ hO_19.blk hO_19.own.sl (by first | omega | decide)) ?_
    rintro _ w_107 ⟨a_105, c_106, rfl, ho_108, hg_109, K_110⟩
    have pr_111 : ∀ q_, own a_105 q_ → ¬ own a_4 q_ := apartNew hg_109 ho_8.own_lt
    have pr_112 : ∀ q_, own a_105 q_ → ¬ boxS b_1 alb q_ := apartNew hg_109 hO_19.own_lt
    have pr_113 : ∀ q_, own a_105 q_ → ¬ own (some ⟨b_86, 0, none⟩) q_ := apartNew hg_109 ho_89.own_lt
    have pr_114 : ∀ q_, own a_105 q_ → ¬ own a_94 q_ := apartNew hg_109 ho_97.own_lt
    have pg_115 : ∀ q_, own a_105 q_ → w.heap.size ≤ q_ := fun q_ h => Nat.le_trans K0.size (hg_109 q_ h)
    clear hg_109
    replace ho_8 := ho_8.ext K_110
    replace hO_19 := hO_19.ext K_110
    replace hs_20 := hs_20.ext K_110
    replace ho_89 := ho_89.ext K_110
    replace ho_97 := ho_97.ext K_110
    replace K0 := K0.ext K_110
    refine RL.gst (wantedT1 rfl rfl rfl rfl) <| St1.val (x_lenSl Try.underlying35 rfl) ?_
    refine RL.gst (wantedT1 rfl rfl rfl rfl) <| St1.val (litT (x_eqI rfl rfl) rfl) ?_
    refine RL.val (x_andT rfl rfl rfl) ?_
    refine RL.val (x_assignB rfl) ?_
    refine RL.nil ?_
    refine Run.ret1 (v := .bool (true)) Try.func9 rfl rfl ?_
    exact ⟨_, rfl, rfl, K0⟩

end Go.Proofs.Ytlediffjclploaa
