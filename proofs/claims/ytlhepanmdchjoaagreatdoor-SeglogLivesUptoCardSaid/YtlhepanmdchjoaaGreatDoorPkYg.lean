/-
  Yg, Yh, Yi, Yj, Yk, Yl
-/
import Derived.Test.YtlhepanmdchjoaaGreatDoorRows
import Derived.Test.YtlhepanmdchjoaaGreatDoorPkYc
/-
  Layer 7: SeglogFull.
-/
namespace Go.Proofs.YtlhepanmdchjoaaGreatDoor
attribute [local irreducible] St1 RL RA RT RT1 Run
attribute [local irreducible] crcN crcL crcS crcB numL leL unfR nameS segsL sortZ segI segO hasP restP
attribute [local irreducible] readAll mayP frameB
/-! ### a disk with one segment -/
def oneL (B : List UInt8) (s : Nat) : List PF := [⟨nameS 1, B, s⟩]
def fullL (T : List (List UInt8)) : List PF := if T = [] then [] else oneL (T.flatMap frameB) 0
theorem name1_may : mayN (nameS 1) = true := name_may (by decide) (by decide)
theorem mayP_zero {b : List UInt8} (h0 : 0 < b.length) (h1 : b.length ≤ 65536) : mayP b = 0 := by unfold mayP; rw [if_neg (ne_of_len h0), if_neg (by omega)]
theorem newDk (room : Int) (w : World) (h : 0 ≤ room ∧ room ≤ 16777216) : Calls Tryz.prog 8 #[.int .i64 room] w (Ret fun v w' => ∃ d F, v = .tuple #[.pointer (some ⟨d, 0, none⟩), .int .i64 0] ∧ DiskAt w' d F room [] ∧ (∀ q, F q → w.heap.size ≤ q) ∧ Ext w w') :=
 ret_mono (newD room w) fun v w' hh => hh.elim (fun h1 => absurd h h1.1) (fun h1 => h1.2)
theorem en8 : Enters Tryz.prog 8 := enters_of Tryz.func8 rfl (by kernel_rfl)
theorem en9 : Enters Tryz.prog 9 := enters_of Tryz.func9 rfl (by kernel_rfl)
theorem en11 : Enters Tryz.prog 11 := enters_of Tryz.func11 rfl (by kernel_rfl)
theorem en13 : Enters Tryz.prog 13 := enters_of Tryz.func13 rfl (by kernel_rfl)
theorem en14 : Enters Tryz.prog 14 := enters_of Tryz.func14 rfl (by kernel_rfl)
end Go.Proofs.YtlhepanmdchjoaaGreatDoor

/-
  Layer 7: Replace.
-/
namespace Go.Proofs.YtlhepanmdchjoaaGreatDoor
attribute [local irreducible] St1 RL RA RT RT1 Run
attribute [local irreducible] crcN crcL crcS crcB numL leL unfR nameS segsL sortZ segI segO hasP restP
attribute [local irreducible] readAll mayP frameB
def mayL : List (List UInt8) → Int
  | [] => 0
  | b :: r => if mayP b ≠ 0 then mayP b else mayL r
theorem mayL_at : ∀ {rs : List RB} {i : Nat} {r : RB}, (∀ q ∈ rs.take i, mayP q.b = 0) → rs[i]? = some r → mayP r.b ≠ 0 → mayL (rs.map RB.b) = mayP r.b
 | [], i, r, _, h, _ => by simp at h
 | x :: rs, 0, r, _, h, h2 => by
  simp at h; subst h; rw [List.map_cons, mayL, if_pos h2]
 | x :: rs, i + 1, r, h1, h, h2 => by
  rw [List.map_cons, mayL, if_neg (by simpa using h1 x (by simp))]; exact mayL_at (i := i) (fun q hq => h1 q (by simp [hq])) (by simpa using h) h2
theorem mayL_ok : ∀ {rs : List RB}, (∀ q ∈ rs, mayP q.b = 0) → mayL (rs.map RB.b) = 0
 | [], _ => rfl
 | x :: rs, h => by
  rw [List.map_cons, mayL, if_neg (by simpa using h x (by simp))]; exact mayL_ok fun q hq => h q (by simp [hq])
theorem take_all_snoc {rs : List RB} {i : Nat} {r : RB} {p : RB → Prop} (h : ∀ q ∈ rs.take i, p q) (hr : rs[i]? = some r) (h2 : p r) : ∀ q ∈ rs.take (i + 1), p q := by
 obtain ⟨hi, rfl⟩ := List.getElem?_eq_some_iff.1 hr; intro q hq; rw [List.take_succ_eq_append_getElem hi] at hq; rcases List.mem_append.1 hq with hq | hq
 ·exact h q hq
 ·simp only [List.mem_singleton] at hq; subst hq; exact h2
def allB (rs : List RB) (j : Nat) : List UInt8 := frameB [] ++ ((rs.map RB.b).take j).flatMap frameB
theorem allB_snoc {rs : List RB} {j : Nat} {r : RB} (h : rs[j]? = some r) : allB rs (j + 1) = allB rs j ++ frameB r.b := by
 have g1 : (rs.map RB.b)[j]? = some r.b := by rw [List.getElem?_map, h]; rfl
 rw [allB, allB, List.take_add_one, g1, List.flatMap_append, List.append_assoc]; simp
theorem allB_le (rs : List RB) (j : Nat) : (allB rs j).length ≤ (allB rs rs.length).length := by
 have : rs.map RB.b = (rs.map RB.b).take j ++ (rs.map RB.b).drop j := (List.take_append_drop _ _).symm; have h2 : (rs.map RB.b).take rs.length = rs.map RB.b := List.take_of_length_le (by simp); rw [allB, allB, h2]
 conv => rhs; rw [this]
 rw [List.flatMap_append]; simp only [List.length_append]; omega
theorem allB_all (rs : List RB) : allB rs rs.length = frameB [] ++ (rs.map RB.b).flatMap frameB := by rw [allB, List.take_of_length_le (by simp)]
noncomputable def replaceP (room : Int) (pl : List PF) (bs : List (List UInt8)) : Int × List PF :=
  if mayL bs ≠ 0 then (mayL bs, pl) else if 999999999 < lastP pl + 1 then (70, pl) else
  if (swapP room pl (frameB [] ++ bs.flatMap frameB) (lastP pl + 1)).1 = 0 then (0, remsL (swapP room pl (frameB [] ++ bs.flatMap frameB) (lastP pl + 1)).2 (segsL pl))
  else ((swapP room pl (frameB [] ++ bs.flatMap frameB) (lastP pl + 1)).1, remL (swapP room pl (frameB [] ++ bs.flatMap frameB) (lastP pl + 1)).2 freshN)
theorem remsL_snoc (pl : List PF) (ns : List Int) (n : Int) : remsL pl (ns ++ [n]) = remL (remsL pl ns) (nameS n) := by
 rw [remsL, remL, remsL, List.filter_filter]; refine List.filter_congr fun f _ => ?_; by_cases h : f.name = nameS n <;> simp [h]
theorem remsL_at {pl : List PF} {ns : List Int} {i : Nat} {n : Int} (h : ns[i]? = some n) : remsL pl (ns.take (i + 1)) = remL (remsL pl (ns.take i)) (nameS n) := by
 obtain ⟨hi, rfl⟩ := List.getElem?_eq_some_iff.1 h; rw [List.take_succ_eq_append_getElem hi, remsL_snoc]
theorem last_max {pl : List PF} {m : Int} (h : m ∈ segsL pl) : m ≤ lastP pl := by
  have hs : (segsL pl).Pairwise (· ≤ ·) := by unfold segsL; exact sortZ_sorted _
  have hl : lastP pl = (segsL pl).getLast (List.ne_nil_of_mem h) := by rw [lastP, List.getLast?_eq_some_getLast (List.ne_nil_of_mem h)]; rfl
  rw [hl]; have e := List.dropLast_concat_getLast (List.ne_nil_of_mem h); rw [← e] at h hs; rcases List.mem_append.1 h with h | h
  · exact (List.pairwise_append.1 hs).2.2 m h _ (by simp)
  · simp only [List.mem_singleton] at h; omega
theorem replace_bad {room : Int} {pl : List PF} {bs : List (List UInt8)} (h : mayL bs ≠ 0) : replaceP room pl bs = (mayL bs, pl) := by rw [replaceP, if_pos h]
theorem replace_many {room : Int} {pl : List PF} {bs : List (List UInt8)} (h : mayL bs = 0) (h2 : 999999999 < lastP pl + 1) : replaceP room pl bs = (70, pl) := by rw [replaceP, if_neg (by simpa using h), if_pos h2]
theorem replace_ok {room : Int} {pl : List PF} {bs : List (List UInt8)} (h : mayL bs = 0) (h2 : ¬ 999999999 < lastP pl + 1) (h3 : (swapP room pl (frameB [] ++ bs.flatMap frameB) (lastP pl + 1)).1 = 0) :
  replaceP room pl bs = (0, remsL (swapP room pl (frameB [] ++ bs.flatMap frameB) (lastP pl + 1)).2 (segsL pl)) := by rw [replaceP, if_neg (by simpa using h), if_neg h2, if_pos h3]
theorem replace_no {room : Int} {pl : List PF} {bs : List (List UInt8)} (h : mayL bs = 0) (h2 : ¬ 999999999 < lastP pl + 1) (h3 : (swapP room pl (frameB [] ++ bs.flatMap frameB) (lastP pl + 1)).1 ≠ 0) :
  replaceP room pl bs = ((swapP room pl (frameB [] ++ bs.flatMap frameB) (lastP pl + 1)).1, remL (swapP room pl (frameB [] ++ bs.flatMap frameB) (lastP pl + 1)).2 freshN) := by rw [replaceP, if_neg (by simpa using h), if_neg h2, if_neg h3]
set_option maxRecDepth 100000 in
set_option maxHeartbeats 4000000 in
theorem lreplace_ (b d : Nat) (F : Nat → Prop) (room : Int) (pl : List PF) (a : Option Addr) (rs : List RB) (c : Nat) (w : World) (hb : Blk w b [.pointer (some ⟨d, 0, none⟩)] 42) (hD : DiskAt w d F room pl) (hbd : ¬ F b) (hL : LaidOk w) (hFG : ∀ q, F q → 5 ≤ q) (hs : SlOf w a (rs.map RB.h)) (hsd : ∀ x, a = some x → ¬ F x.block) (hQ : RecsQ w rs) (hQF : ∀ r ∈ rs, r.b ≠ [] → ∀ x, r.a = some x → ¬ F x.block) (hl : rs.length ≤ 4294967295) (hsum : (allB rs rs.length).length ≤ 1073741824) :
  Calls Tryz.prog 17 #[.pointer (some ⟨b, 0, none⟩), .slice (a) ((rs.map RB.h).length) (c)] w (Ret (DStep d F room w (replaceP room pl (rs.map RB.b)).1 (replaceP room pl (rs.map RB.b)).2)) := by
 have hLs := hL.size; have hok := hD.ok; have hlen := hok.len; have hsl := segsL_len pl; have hll := last_le pl; have hrl0 : (rs.map RB.h).length = rs.length := List.length_map ..; have hfs : freshN.size = 7 := rfl; have hfn := frameB_len [] (by decide); simp only [List.length_nil] at hfn; refine calls_run (n := 99) Tryz.func17 rfl rfl rfl <| Run.seq <| Run.region <| RL.val (x_assignI rfl) <| RL.nil <| Run.seq <| Run.seq <| Run.region ?_; refine RL.val (x_moveP rfl) <| RL.st rfl <| St1.call (vals := [.pointer (some ⟨b, 0, none⟩)]) en47 rfl (lmade_ _ _ _ _ _ _ hb hD hbd hL) ?_; rintro _ w_1 ⟨rfl, K_2⟩; replace hb := hb.ext K_2; replace hD := hD.ext K_2; replace hL := hL.ext K_2; have K0 := (K_2 : Ext w _).to (S := F); refine RL.val (x_not (b := true) rfl) <| RL.nil <| Run.condF rfl <| Run.skip <| Run.seq <| Run.seq <| Run.region <| RL.val (x_moveSl rfl) ?_; refine RL.val (x_lenSl Tryz.underlying22 rfl) <| RL.val (x_moveI rfl) <| RL.nil <| Run.block ?_; refine Run.loop (ι := Nat) (fun i ρ' w' => Holds ρ' [(0, .pointer (some ⟨b, 0, none⟩)), (1, .slice (a) ((rs.map RB.h).length) (c)), (21, .slice (a) ((rs.map RB.h).length) (c)), (22, .int .i64 ((((rs.map RB.h).length : Nat) : Int))), (23, .int .i64 (((i : Nat) : Int)))] ∧ Keeps F w w' ∧ (Blk w' b [.pointer (some ⟨d, 0, none⟩)] 42) ∧ (LaidOk w') ∧ (DiskAt w' d F room pl) ∧ (i ≤ rs.length) ∧ (∀ q ∈ rs.take i, mayP q.b = 0)) (fun i => rs.length - i) 0 ?_ ?_
 ·refine ⟨⟨rfl, rfl, rfl, rfl, rfl, trivial⟩, K0, hb, hL, hD, ?_, ?_⟩
  ·omega
  ·intro q h; exact absurd h (by simp)
 clear hb hD; clear K0; rintro i ρ_5 w_3 ⟨hH_4, K0, hb, hL, hD, hi, hm1⟩ ih1; obtain ⟨ρ₀, rfl⟩ := hH_4.ex; clear hH_4; refine Run.seq <| Run.region <| RL.val (x_ltI rfl rfl) <| RL.nil <| Run.seq ?_; refine Run.cond rfl (fun hc24 => ?_) (fun hc24 => ?_)
 ·try simp only [br] at hc24
  refine Run.skip <| Run.seq <| Run.block <| Run.seq <| Run.region ?_; obtain ⟨b_6, o_7, hh_, hh, ha_8, hc_9⟩ := hs.el (i := i) (by first | omega | (simp only [List.length_set]; omega)); have hc_9_lt := hc_9.lt; replace hc_9 := hc_9.keep K0 (hsd _ ha_8); refine RL.val (x_idxN Tryz.underlying22 ty32 rfl rfl ha_8 (by first | omega | (simp only [List.length_set]; omega))) <| RL.val (x_ldV (v := .slice (hh_.a) (hh_.len) (hh_.cap)) (y := hh_) ty32 rfl hc_9 rfl) <| RL.val (x_assignSl rfl) <| RL.nil ?_; obtain ⟨r, hr, hre, hrm⟩ := recsQ_at hh; subst hre; have hrl_ : r.h.len = r.b.length := rfl; refine Run.seq <| Run.region <| RL.val (x_moveSl rfl) <| RL.st rfl <| St1.call (vals := [.slice (r.a) (r.b.length) (r.c)]) en48 rfl (recMay_ _ r.b _ _) ?_; rintro _ w_12 ⟨rfl, K_13⟩; replace hb := hb.ext K_13; replace hL := hL.ext K_13; replace hD := hD.ext K_13; replace K0 := K0.ext K_13; refine RL.val (x_assignI rfl) <| RL.nil <| Run.seq <| Run.region <| RL.val (x_moveI rfl) <| RL.val (x_neI rfl rfl) <| RL.nil ?_; refine Run.cond rfl (fun hc30 => ?_) (fun hc30 => ?_)
  ·try simp only [br] at hc30
   refine Run.seq <| Run.region <| RL.val (x_moveI rfl) <| RL.val (x_assignI rfl) <| RL.nil <| Run.ret1 (v := .int .i64 (mayP r.b)) Tryz.func17 rfl rfl ?_; have hEq : replaceP room pl (rs.map RB.b) = (mayP r.b, pl) := (replace_bad (by rw [mayL_at hm1 hr hc30]; exact hc30)).trans (by rw [mayL_at hm1 hr hc30]); rw [hEq]; exact ⟨_, rfl, F, rfl, hD, movedS_foot (fun q_ h_ _ => h_), K0⟩
  ·try simp only [br] at hc30
   refine Run.skip <| Run.inBlock <| Run.region <| RL.val (litI (c := ((i + 1 : Nat) : Int)) (x_add rfl rfl (by omega) (by omega)) rfl) <| RL.val (x_moveI rfl) <| RL.nil ?_; refine ih1 (i + 1) _ _ ?_ (by omega); refine ⟨⟨rfl, rfl, rfl, rfl, rfl, trivial⟩, K0, hb, hL, hD, ?_, ?_⟩
   ·omega
   ·exact take_all_snoc (p := fun q => mayP q.b = 0) hm1 hr hc30
 ·try simp only [br] at hc24
  refine Run.exit rfl <| Run.seq ?_; have hmA : ∀ q ∈ rs, mayP q.b = 0 := by rw [show i = rs.length by omega, List.take_length] at hm1; exact hm1
  have hm0 := mayL_ok hmA; refine Run.region <| RL.val (x_moveP rfl) <| RL.st rfl <| St1.call (vals := [.pointer (some ⟨b, 0, none⟩)]) en18 rfl (lsegs_ _ _ _ _ _ _ hb hD hbd hL) ?_; rintro _ w_16 ⟨a_14, c_15, rfl, ho_17, hg_18, K_19⟩; have pr_21 : ∀ q_, own a_14 q_ → ¬ F q_ := apartNew hg_18 hD.own_lt; clear hg_18; replace hb := hb.ext K_19; replace hL := hL.ext K_19; replace hD := hD.ext K_19; replace K0 := K0.ext K_19; refine RL.val (x_assignSl rfl) <| RL.nil <| Run.seq <| Run.region <| RL.val (x_moveP rfl) <| RL.val (x_nilCheck rfl) <| RL.val (x_fld (o' := 0) Tryz.underlying42 rfl ty40 rfl rfl rfl) <| RL.st rfl <| St1.call (vals := [.pointer (some ⟨b, 0, none⟩)]) en49 rfl (last_ _ _ _ _ _ _ hb hD hbd hL) ?_; rintro _ w_24 ⟨rfl, K_25⟩; replace hb := hb.ext K_25; replace hL := hL.ext K_25; replace hD := hD.ext K_25; replace ho_17 := ho_17.ext K_25; replace K0 := K0.ext K_25; refine RL.val (x_add rfl rfl (by omega) (by omega)) <| RL.val (x_assignI rfl) <| RL.nil <| Run.seq <| Run.seq <| Run.region <| RL.val (x_moveI rfl) <| RL.val (x_gtI rfl rfl) ?_; refine RL.nil ?_; refine Run.cond rfl (fun hc41 => ?_) (fun hc41 => ?_)
  ·try simp only [br] at hc41
   refine Run.seq <| Run.region <| RL.val (x_assignI rfl) <| RL.nil <| Run.ret1 (v := .int .i64 (70)) Tryz.func17 rfl rfl ?_; have hEq : replaceP room pl (rs.map RB.b) = (70, pl) := replace_many hm0 hc41; rw [hEq]; exact ⟨_, rfl, F, rfl, hD, movedS_foot (fun q_ h_ _ => h_), K0⟩
  ·try simp only [br] at hc41
   refine Run.skip <| Run.seq <| Run.region <| RL.st rfl <| St1.call (vals := [.slice (none) (0) (0)]) en50 rfl (frame_ none ([] : List UInt8) 0 _ (SlOf.nil _ _) (by decide)) ?_; rintro _ w_28 ⟨a_26, c_27, rfl, ho_29, hg_30, K_31⟩; have pr_32 : ¬ own a_26 b := notNew hg_30 hb.lt; have pr_33 : ∀ q_, own a_26 q_ → ¬ F q_ := apartNew hg_30 hD.own_lt; have pr_34 : ∀ q_, own a_26 q_ → ¬ own a_14 q_ := apartNew hg_30 ho_17.own_lt; have pg_35 : ∀ q_, own a_26 q_ → q_ < w.heap.size → F q_ := fun q_ h hlt => absurd (Nat.le_trans K0.size (hg_30 q_ h)) (by omega); have pw_36 : ∀ q_, own a_26 q_ → w.heap.size ≤ q_ := fun q_ h => Nat.le_trans K0.size (hg_30 q_ h); clear hg_30; replace hb := hb.ext K_31; replace hL := hL.ext K_31; replace hD := hD.ext K_31; replace ho_17 := ho_17.ext K_31; replace K0 := K0.ext K_31; refine RL.val (x_moveT rfl) <| RL.val (x_extract rfl rfl) <| RL.val (x_extract rfl rfl) <| RL.val (x_assignSl rfl) <| RL.val (x_assignI rfl) <| RL.nil <| Run.seq <| Run.seq ?_; refine Run.region <| RL.val (x_moveSl rfl) <| RL.val (x_lenSl Tryz.underlying22 rfl) <| RL.val (x_moveI rfl) <| RL.nil <| Run.block ?_; refine Run.loop (ι := Nat) (fun j ρ' w' => ∃ aj : Option Addr, ∃ cj : Nat, Holds ρ' [(0, .pointer (some ⟨b, 0, none⟩)), (8, .slice (a_14) ((segsL pl).length) (c_15)), (9, .int .i64 ((lastP pl) + 1)), (10, .slice (aj) ((allB rs j).length) (cj)), (11, .int .i64 (0)), (46, .slice (a) ((rs.map RB.h).length) (c)), (47, .int .i64 ((((rs.map RB.h).length : Nat) : Int))), (48, .int .i64 (((j : Nat) : Int)))] ∧ Keeps F w w' ∧ (Blk w' b [.pointer (some ⟨d, 0, none⟩)] 42) ∧ (LaidOk w') ∧ (DiskAt w' d F room pl) ∧ (OwnSl w' 3 (a_14) (c_15) (segsL pl)) ∧ (OwnSl w' 5 aj cj (allB rs j)) ∧ (¬ own aj b) ∧ (∀ q_, own aj q_ → ¬ F q_) ∧ (∀ q_, own aj q_ → ¬ own a_14 q_) ∧ (∀ q_, own aj q_ → q_ < w.heap.size → F q_) ∧ (∀ q_, own aj q_ → w.heap.size ≤ q_) ∧ (j ≤ rs.length)) (fun j => rs.length - j) 0 ?_ ?_
   ·rw [show allB rs 0 = frameB [] by rw [allB]; simp]
    refine ⟨_, _, ⟨rfl, rfl, rfl, rfl, rfl, rfl, rfl, rfl, trivial⟩, K0, hb, hL, hD, ho_17, ho_29, pr_32, pr_33, pr_34, pg_35, pw_36, ?_⟩
    ·omega
   clear hb hD ho_17 ho_29; clear K0; rintro j ρ_45 w_37 ⟨aj, cj, hH_38, K0, hb, hL, hD, ho_17, ho_39, pr_40, pr_41, pr_42, pr_43, pr_44, hj⟩ ih2; obtain ⟨ρ₀, rfl⟩ := hH_38.ex; clear hH_38; refine Run.seq <| Run.region <| RL.val (x_ltI rfl rfl) <| RL.nil <| Run.seq ?_; refine Run.cond rfl (fun hc49 => ?_) (fun hc49 => ?_)
   ·try simp only [br] at hc49
    refine Run.skip <| Run.seq <| Run.block <| Run.seq <| Run.region ?_; obtain ⟨b_46, o_47, hh_, hh, ha_48, hc_49⟩ := hs.el (i := j) (by first | omega | (simp only [List.length_set]; omega)); have hc_49_lt := hc_49.lt; replace hc_49 := hc_49.keep K0 (hsd _ ha_48); refine RL.val (x_idxN Tryz.underlying22 ty32 rfl rfl ha_48 (by first | omega | (simp only [List.length_set]; omega))) <| RL.val (x_ldV (v := .slice (hh_.a) (hh_.len) (hh_.cap)) (y := hh_) ty32 rfl hc_49 rfl) <| RL.val (x_assignSl rfl) <| RL.nil ?_; obtain ⟨r, hr, hre, hrm⟩ := recsQ_at hh; subst hre; have hrl_ : r.h.len = r.b.length := rfl; have hrk := mayP_ok (hmA r hrm); have hfb := frameB_len r.b (by omega); have hal := allB_le rs (j + 1); rw [allB_snoc hr, List.length_append] at hal; refine Run.seq <| Run.region <| RL.val (x_moveSl rfl) <| RL.st rfl <| St1.call (vals := [.slice (r.a) (r.b.length) (r.c)]) en50 rfl (frame_ _ _ _ _ ((hQ r hrm).keep K0 (hQF r hrm hrk.1)) (by first | omega | (simp; done))) ?_; rintro _ w_54 ⟨a_52, c_53, rfl, ho_55, hg_56, K_57⟩; clear hg_56; replace hb := hb.ext K_57; replace hL := hL.ext K_57; replace hD := hD.ext K_57; replace ho_17 := ho_17.ext K_57; replace ho_39 := ho_39.ext K_57; replace K0 := K0.ext K_57; refine RL.val (x_moveT rfl) <| RL.val (x_extract rfl rfl) <| RL.val (x_extract rfl rfl) <| RL.val (x_assignSl rfl) <| RL.val (x_assignI rfl) <| RL.nil <| Run.seq <| Run.seq ?_; refine Run.region <| RL.val (x_moveI rfl) <| RL.val (litF (x_neI rfl rfl) (by decide)) <| RL.nil <| Run.condF rfl <| Run.skip <| Run.region <| RL.val (x_moveSl rfl) ?_; refine RL.val (x_moveSl rfl) <| RL.st rfl <| St1.append (xs := allB rs j) (ys := frameB r.b) Tryz.underlying32 ty5 rfl rfl rfl ho_39 ho_55.sl (by omega) (by decide) ?_; intro a_64 c_65 w_66 ho_67 K_68 hm_69 hrm_70; have pr_71 : ¬ own a_64 b := hm_69.not pr_40 hb.lt; have pr_72 : ∀ q_, own a_64 q_ → ¬ F q_ := hm_69.apart pr_41 hD.own_lt; have pr_73 : ∀ q_, own a_64 q_ → ¬ own a_14 q_ := hm_69.apart pr_42 ho_17.own_lt; have pg_75 : ∀ q_, own a_64 q_ → q_ < w.heap.size → F q_ := hm_69.inS pr_43 K0.size; have pw_76 : ∀ q_, own a_64 q_ → w.heap.size ≤ q_ := hm_69.ge pr_44 K0.size; replace hb := hb.keep K_68 pr_40; replace hL := hL.keep K_68 (fun q_ hq_ => Nat.le_trans hLs (pr_44 q_ hq_)); replace hD := hD.keepO K_68 (fun q_ h1 h2 => pr_41 q_ h2 h1); replace ho_17 := ho_17.keepO K_68 (fun q_ h1 h2 => pr_42 q_ h2 h1); replace K0 := K0.trans K_68 (fun x hlt hx => pr_43 x hx hlt); clear hm_69; clear hrm_70; refine RL.val (x_assignSl rfl) <| RL.nil <| Run.inBlock <| Run.region <| RL.val (litI (c := ((j + 1 : Nat) : Int)) (x_add rfl rfl (by omega) (by omega)) rfl) <| RL.val (x_moveI rfl) <| RL.nil ?_; refine ih2 (j + 1) _ _ ?_ (by omega); rw [allB_snoc hr]; refine ⟨_, _, ⟨rfl, rfl, rfl, rfl, rfl, rfl, rfl, rfl, trivial⟩, K0, hb, hL, hD, ho_17, ho_67, pr_71, pr_72, pr_73, pg_75, pw_76, ?_⟩
    ·omega
   ·try simp only [br] at hc49
    refine Run.exit rfl <| Run.seq <| Run.seq ?_; have hje : j = rs.length := by omega
    subst hje; refine Run.region <| RL.val (x_moveI rfl) <| RL.val (litT (x_eqI rfl rfl) (by decide)) <| RL.nil <| Run.condT rfl <| Run.region <| RL.val (x_moveP rfl) <| RL.val (x_nilCheck rfl) ?_; refine RL.val (x_fld (o' := 0) Tryz.underlying42 rfl ty40 rfl rfl rfl) <| RL.val (x_moveSl rfl) <| RL.val (x_moveI rfl) <| RL.st rfl <| St1.call (vals := [.pointer (some ⟨b, 0, none⟩), .slice (aj) ((allB rs rs.length).length) (cj), .int .i64 ((lastP pl) + 1)]) en53 rfl (swap_ _ _ _ _ _ _ (allB rs rs.length) _ ((lastP pl) + 1) _ hb hD hbd hL hFG ho_39.sl (fun x_ hx_ => pr_41 _ ⟨x_, hx_, rfl⟩) (by omega)) ?_; rintro _ w_78 ⟨F_77, rfl, hD_79, hm_80, K_81⟩; have pr_82 : ¬ F_77 b := hm_80.not hbd hb.lt; have pr_83 : ∀ q_, F_77 q_ → ¬ own a_14 q_ := hm_80.apart (fun q_ h1 h2 => pr_21 q_ h2 h1) ho_17.own_lt; have pr_84 : ∀ q_, F_77 q_ → ¬ own aj q_ := hm_80.apart (fun q_ h1 h2 => pr_41 q_ h2 h1) ho_39.own_lt; have pg_85 : ∀ q_, F_77 q_ → q_ < w.heap.size → F q_ := hm_80.inS (fun q_ h_ _ => h_) K0.size; have pG_86 : ∀ q_, F_77 q_ → 5 ≤ q_ := fun q_ h_ => (hm_80 q_ h_).elim (hFG q_) (fun h2_ => Nat.le_trans hLs (Nat.le_trans K0.size h2_)); replace hb := hb.keep K_81 hbd; replace hL := hL.keep K_81 hFG; replace ho_17 := ho_17.keepO K_81 pr_21; replace ho_39 := ho_39.keepO K_81 pr_41; replace K0 := K0.trans K_81 (fun x hlt hx => (fun q_ h_ _ => h_) x hx hlt); clear hm_80; refine RL.val (x_assignI rfl) <| RL.nil <| Run.seq <| Run.seq ?_; by_cases hsw : (swapP room pl (allB rs rs.length) ((lastP pl) + 1)).1 = 0
    ·rw [hsw]
     refine Run.region <| RL.val (x_moveI rfl) <| RL.val (litF (x_neI rfl rfl) (by decide)) <| RL.nil <| Run.condF rfl <| Run.skip <| Run.seq <| Run.seq ?_; refine Run.region <| RL.val (x_moveSl rfl) <| RL.val (x_lenSl Tryz.underlying47 rfl) <| RL.val (x_moveI rfl) <| RL.nil <| Run.block ?_; refine Run.loop (ι := Nat) (fun k ρ' w' => ∃ Fk : Nat → Prop, Holds ρ' [(0, .pointer (some ⟨b, 0, none⟩)), (81, .slice (a_14) ((segsL pl).length) (c_15)), (82, .int .i64 ((((segsL pl).length : Nat) : Int))), (83, .int .i64 (((k : Nat) : Int)))] ∧ Keeps F w w' ∧ (Blk w' b [.pointer (some ⟨d, 0, none⟩)] 42) ∧ (LaidOk w') ∧ (OwnSl w' 3 (a_14) (c_15) (segsL pl)) ∧ (OwnSl w' 5 (aj) (cj) (allB rs rs.length)) ∧ (DiskAt w' d Fk room (remsL (swapP room pl (allB rs rs.length) ((lastP pl) + 1)).2 ((segsL pl).take k))) ∧ (¬ Fk b) ∧ (∀ q_, Fk q_ → ¬ own a_14 q_) ∧ (∀ q_, Fk q_ → ¬ own aj q_) ∧ (∀ q_, Fk q_ → q_ < w.heap.size → F q_) ∧ (∀ q_, Fk q_ → 5 ≤ q_) ∧ (k ≤ (segsL pl).length)) (fun k => (segsL pl).length - k) 0 ?_ ?_
     ·rw [show remsL (swapP room pl (allB rs rs.length) ((lastP pl) + 1)).2 ((segsL pl).take 0) = (swapP room pl (allB rs rs.length) ((lastP pl) + 1)).2 by rw [List.take_zero, remsL_nil]]
      refine ⟨_, ⟨rfl, rfl, rfl, rfl, trivial⟩, K0, hb, hL, ho_17, ho_39, hD_79, pr_82, pr_83, pr_84, pg_85, pG_86, ?_⟩
      ·omega
     clear hb ho_17 ho_39 hD_79; clear K0; rintro k ρ_95 w_87 ⟨Fk, hH_88, K0, hb, hL, ho_17, ho_39, hO_89, pr_90, pr_91, pr_92, pr_93, pr_94, hk⟩ ih3; obtain ⟨ρ₀, rfl⟩ := hH_88.ex; clear hH_88; refine Run.seq <| Run.region <| RL.val (x_ltI rfl rfl) <| RL.nil <| Run.seq ?_; refine Run.cond rfl (fun hc84 => ?_) (fun hc84 => ?_)
     ·try simp only [br] at hc84
      refine Run.skip <| Run.seq <| Run.block <| Run.seq <| Run.region ?_; obtain ⟨b_96, o_97, m, hm, ha_98, hc_99⟩ := ho_17.sl.el (i := k) (by first | omega | (simp only [List.length_set]; omega)); refine RL.val (x_idxN Tryz.underlying47 ty3 rfl rfl ha_98 (by first | omega | (simp only [List.length_set]; omega))) <| RL.val (x_ldV (v := .int .i64 (m)) (y := m) ty3 rfl hc_99 rfl) <| RL.val (x_assignI rfl) <| RL.nil <| Run.seq ?_; have hnm := nameS_may m; have hmm := List.mem_of_getElem? hm; have hmx := last_max hmm; have hml := segsL_mem.1 hmm
      have hhas := has_rems (pl := (swapP room pl (allB rs rs.length) ((lastP pl) + 1)).2) (ns := (segsL pl).take k) (has_swap (room := room) (b := allB rs rs.length) (n := lastP pl + 1) hml.2.2 (fresh_not m) (fun e_ => by have := name_inj hml.1 hml.2.1 (by omega) (by omega) e_; omega)) (fun j hj => by
       obtain ⟨q, hq⟩ := List.getElem?_of_mem hj; rw [List.getElem?_take] at hq
       split at hq
       ·exact (segs_ok hok).ne hq hm (by assumption)
       ·cases hq)
      refine Run.drawT [] (m := 9) (by kernel_rfl) rfl ?_; intro w_102 K_103; replace hb := hb.ext K_103; replace hL := hL.ext K_103; replace ho_17 := ho_17.ext K_103; replace ho_39 := ho_39.ext K_103; replace hO_89 := hO_89.ext K_103; replace K0 := K0.ext K_103; refine ⟨fun w' => Blk w' b [.pointer (some ⟨d, 0, none⟩)] 42 ∧ True, ?_⟩; refine RT.takeP (v := .pointer (some ⟨b, 0, none⟩)) 0 rfl (by kernel_rfl) (.inr ⟨hb, trivial⟩) (fun _ => (x_moveP rfl)) <| RT.takeP (v := .pointer (some ⟨b, 0, none⟩)) 1 rfl (by kernel_rfl) (.inr ⟨hb, trivial⟩) (fun _ => (x_nilCheck rfl)) <| RT.takeP (v := .pointer (some ⟨b, 0, none⟩)) 2 rfl (by kernel_rfl) (.inr ⟨hb, trivial⟩) (fun _ => (x_fld (o' := 0) Tryz.underlying42 rfl ty40 rfl rfl rfl)) <| RT.takeP (v := .pointer (some ⟨b, 0, none⟩)) 3 rfl (by kernel_rfl) (.inr ⟨hb, trivial⟩) (fun _ => (x_fld (o' := 0) Tryz.underlying40 rfl ty24 rfl rfl rfl)) <| RT.take (v := .pointer (some ⟨d, 0, none⟩)) 4 rfl (by kernel_rfl) ⟨hb, trivial⟩ (by rintro _ ⟨hb, -⟩; exact (x_ld (v := .pointer (some ⟨d, 0, none⟩)) ty24 rfl rfl (hb.cl.field (i := 0) rfl))) <| RT.takeP (v := .int .i64 (m)) 5 rfl (by kernel_rfl) (.inr ⟨hb, trivial⟩) (fun _ => (x_moveI rfl)) <| RT.st 6 rfl (by kernel_rfl) rfl <| St1.call (vals := [.int .i64 (m)]) en43 rfl (segName_ m _ hL) ?_; rintro _ w_104 ⟨rfl, K_105⟩; replace hb := hb.ext K_105; replace hL := hL.ext K_105; replace ho_17 := ho_17.ext K_105; replace ho_39 := ho_39.ext K_105; replace hO_89 := hO_89.ext K_105; replace K0 := K0.ext K_105; refine ⟨.inr ⟨hb, trivial⟩, ?_⟩; refine RT.st 7 rfl (by kernel_rfl) rfl <| St1.call (vals := [.pointer (some ⟨d, 0, none⟩), .string (nameS m)]) en40 rfl (dcast (removeD hO_89 (nameS m) (by first | omega | decide)) (look_has (name_may hml.1 hml.2.1) hhas) rfl) ?_; rintro _ w_107 ⟨F_106, rfl, hD_108, hm_109, K_110⟩; have pr_111 : ¬ F_106 b := hm_109.not pr_90 hb.lt; have pr_112 : ∀ q_, F_106 q_ → ¬ own a_14 q_ := hm_109.apart pr_91 ho_17.own_lt; have pr_113 : ∀ q_, F_106 q_ → ¬ own aj q_ := hm_109.apart pr_92 ho_39.own_lt; have pg_114 : ∀ q_, F_106 q_ → q_ < w.heap.size → F q_ := hm_109.inS pr_93 K0.size; have pG_115 : ∀ q_, F_106 q_ → 5 ≤ q_ := fun q_ h_ => (hm_109 q_ h_).elim (pr_94 q_) (fun h2_ => Nat.le_trans hLs (Nat.le_trans K0.size h2_)); replace hb := hb.keep K_110 pr_90; replace hL := hL.keep K_110 pr_94; replace ho_17 := ho_17.keepO K_110 (fun q_ h1 h2 => pr_91 q_ h2 h1); replace ho_39 := ho_39.keepO K_110 (fun q_ h1 h2 => pr_92 q_ h2 h1); replace K0 := K0.trans K_110 (fun x hlt hx => pr_93 x hx hlt); clear hm_109; refine ⟨.inr ⟨hb, trivial⟩, ?_⟩; refine RT.takeP (v := .int .i64 (0)) 8 rfl (by kernel_rfl) (.inr ⟨hb, trivial⟩) (fun _ => (x_assignI rfl)) <| RT.done (by kernel_rfl) <| Run.seq <| Run.region <| RL.val (x_moveI rfl) <| RL.val (litF (x_neI rfl rfl) (by decide)) <| RL.nil <| Run.condF rfl ?_; refine Run.skip <| Run.inBlock <| Run.region <| RL.val (litI (c := ((k + 1 : Nat) : Int)) (x_add rfl rfl (by omega) (by omega)) rfl) <| RL.val (x_moveI rfl) <| RL.nil ?_; have e := remsL_at (pl := (swapP room pl (allB rs rs.length) ((lastP pl) + 1)).2) hm; refine ih3 (k + 1) _ _ ?_ (by omega); rw [e]; refine ⟨_, ⟨rfl, rfl, rfl, rfl, trivial⟩, K0, hb, hL, ho_17, ho_39, hD_108, pr_111, pr_112, pr_113, pg_114, pG_115, ?_⟩
      ·omega
     ·try simp only [br] at hc84
      refine Run.exit rfl <| Run.seq <| Run.region <| RL.val (x_assignI rfl) <| RL.nil <| Run.ret1 (v := .int .i64 (0)) Tryz.func17 rfl rfl ?_; have hke : k = (segsL pl).length := by omega
      subst hke; rw [List.take_length] at hO_89; have hEq : replaceP room pl (rs.map RB.b) = (0, remsL (swapP room pl (allB rs rs.length) ((lastP pl) + 1)).2 (segsL pl)) := (replace_ok hm0 (by omega) (by rw [← allB_all]; exact hsw)).trans (by rw [allB_all]); rw [hEq]; exact ⟨_, rfl, Fk, rfl, hO_89, movedS_foot pr_93, K0⟩
    ·refine Run.region ?_
     refine RL.val (x_moveI rfl) <| RL.val (x_neI rfl rfl) <| RL.nil ?_; refine Run.cond rfl (fun hc73 => ?_) (fun hc73 => ?_)
     ·try simp only [br] at hc73
      skip
      refine Run.seq <| Run.region <| RL.val (x_moveP rfl) <| RL.val (x_nilCheck rfl) <| RL.val (x_fld (o' := 0) Tryz.underlying42 rfl ty40 rfl rfl rfl) <| RL.val (x_fld (o' := 0) Tryz.underlying40 rfl ty24 rfl rfl rfl) <| RL.val (x_ld (v := .pointer (some ⟨d, 0, none⟩)) ty24 rfl rfl (hb.cl.field (i := 0) rfl)) <| RL.st rfl <| St1.call (vals := [.pointer (some ⟨d, 0, none⟩), .string (freshN)]) en40 rfl (removeD hD_79 freshN (by first | omega | decide)) ?_; rintro _ w_117 ⟨F_116, rfl, hD_118, hm_119, K_120⟩; have pg_124 : ∀ q_, F_116 q_ → q_ < w.heap.size → F q_ := hm_119.inS pg_85 K0.size; replace hb := hb.keep K_120 pr_82; replace hL := hL.keep K_120 pG_86; replace K0 := K0.trans K_120 (fun x hlt hx => pg_85 x hx hlt); clear hm_119; refine RL.nil <| Run.seq <| Run.region <| RL.val (x_moveI rfl) <| RL.val (x_assignI rfl) <| RL.nil <| Run.ret1 (v := .int .i64 ((swapP room pl (allB rs rs.length) ((lastP pl) + 1)).1)) Tryz.func17 rfl rfl ?_; have hEq : replaceP room pl (rs.map RB.b) = ((swapP room pl (allB rs rs.length) ((lastP pl) + 1)).1, remL ((swapP room pl (allB rs rs.length) ((lastP pl) + 1)).2) freshN) := (replace_no hm0 (by omega) (by rw [← allB_all]; exact hsw)).trans (by rw [allB_all]); rw [hEq]; exact ⟨_, rfl, F_116, rfl, hD_118, movedS_foot pg_124, K0⟩
     ·try simp only [br] at hc73
      exact absurd hc73 hsw
end Go.Proofs.YtlhepanmdchjoaaGreatDoor

/-
  Layer 7: plain facts of a log's states.
-/
namespace Go.Proofs.YtlhepanmdchjoaaGreatDoor
attribute [local irreducible] St1 RL RA RT RT1 Run
attribute [local irreducible] crcN crcL crcS crcB numL leL unfR nameS segsL sortZ segI segO hasP restP
attribute [local irreducible] readAll mayP frameB
/-! ### the states of a log -/
def segF (i : Nat) (rs : List (List UInt8)) (s : Nat) : PF := ⟨nameS (i : Int), rs.flatMap frameB, s⟩
def lenF (rs : List (List UInt8)) : Nat := (rs.flatMap frameB).length
def doneL : Nat → List (List (List UInt8)) → List PF
  | _, [] => []
  | i, rs :: t => segF i rs (lenF rs) :: doneL (i + 1) t
def curL (i : Nat) (c : List (List UInt8)) (s : Nat) : List PF := if c = [] then [] else [segF i c s]
def logL (D : List (List (List UInt8))) (c : List (List UInt8)) (s : Nat) : List PF := doneL 1 D ++ curL (D.length + 1) c s
def cntL (D : List (List (List UInt8))) (c : List (List UInt8)) : Nat := D.length + if c = [] then 0 else 1
theorem doneL_app : ∀ (D : List (List (List UInt8))) (i : Nat) (rs : List (List UInt8)), doneL i (D ++ [rs]) = doneL i D ++ [segF (i + D.length) rs (lenF rs)]
 | [], i, rs => by simp [doneL]
 | x :: D, i, rs => by
  rw [List.cons_append, doneL, doneL, doneL_app D (i + 1) rs, List.cons_append, List.length_cons, show i + 1 + D.length = i + (D.length + 1) by omega]
theorem doneL_len : ∀ (D : List (List (List UInt8))) (i : Nat), (doneL i D).length = D.length
 | [], _ => rfl
 | x :: D, i => by rw [doneL, List.length_cons, doneL_len D, List.length_cons]
theorem doneL_mem : ∀ {D : List (List (List UInt8))} {i : Nat} {f : PF}, f ∈ doneL i D → ∃ k rs, k < D.length ∧ D[k]? = some rs ∧ f = segF (i + k) rs (lenF rs)
 | [], _, _, h => by cases h
 | x :: D, i, f, h => by
  rw [doneL] at h; rcases List.mem_cons.1 h with rfl | h
  ·exact ⟨0, x, by simp, rfl, rfl⟩
  ·obtain ⟨k, rs, h1, h2, h3⟩ := doneL_mem h
   exact ⟨k + 1, rs, by simp; omega, by simpa using h2, by rw [h3, show i + 1 + k = i + (k + 1) by omega]⟩
theorem doneL_get : ∀ {D : List (List (List UInt8))} {i k : Nat} {rs : List (List UInt8)}, D[k]? = some rs → segF (i + k) rs (lenF rs) ∈ doneL i D
 | [], _, _, _, h => by simp at h
 | x :: D, i, 0, rs, h => by
  simp at h; subst h; rw [doneL]; simp
 | x :: D, i, k + 1, rs, h => by
  rw [doneL]; have := doneL_get (i := i + 1) (k := k) (by simpa using h); rw [show i + 1 + k = i + (k + 1) by omega] at this; exact List.mem_cons_of_mem _ this
section
variable {D : List (List (List UInt8))} {c : List (List UInt8)} {s : Nat}
theorem logL_mem {f : PF} (h : f ∈ logL D c s) : ∃ k : Nat, 1 ≤ k ∧ k ≤ cntL D c ∧ f.name = nameS (k : Int) := by
 rw [logL] at h; rcases List.mem_append.1 h with h | h
 ·obtain ⟨k, rs, h1, h2, rfl⟩ := doneL_mem h
  exact ⟨1 + k, by omega, by rw [cntL]; omega, rfl⟩
 ·rw [curL] at h
  split at h
  ·cases h
  ·rename_i hc
   simp only [List.mem_singleton] at h; subst h; exact ⟨D.length + 1, by omega, by rw [cntL, if_neg hc]; omega, rfl⟩
theorem logL_has {k : Nat} (h1 : 1 ≤ k) (h2 : k ≤ cntL D c) : hasL (logL D c s) (nameS (k : Int)) = true := by
 by_cases hk : k ≤ D.length
 ·obtain ⟨rs, hr⟩ : ∃ rs, D[k - 1]? = some rs := ⟨_, List.getElem?_eq_getElem (by omega)⟩
  have := doneL_get (i := 1) hr; rw [show 1 + (k - 1) = k by omega] at this; exact hasL_iff.2 ⟨_, List.mem_append_left _ this, rfl⟩
 ·have hc : c ≠ [] := fun e => by rw [cntL, if_pos e] at h2; omega
  rw [cntL, if_neg hc] at h2; have : k = D.length + 1 := by omega
  subst this; exact hasL_iff.2 ⟨segF (D.length + 1) c s, List.mem_append_right _ (by rw [curL, if_neg hc]; simp), rfl⟩
theorem name_nat {i j : Nat} (h1 : 1 ≤ i) (h2 : i ≤ 999999999) (h3 : 1 ≤ j) (h4 : j ≤ 999999999) (e : nameS (i : Int) = nameS (j : Int)) : i = j := by
 have := name_inj (n := (i : Int)) (m := (j : Int)) (by omega) (by omega) (by omega) (by omega) e; omega
theorem done_nodup : ∀ (D : List (List (List UInt8))) (i : Nat), 1 ≤ i → i + D.length ≤ 999999999 → ((doneL i D).map (·.name)).Nodup
 | [], _, _, _ => by simp [doneL]
 | x :: D, i, h1, h2 => by
  rw [doneL, List.map_cons, List.nodup_cons]; simp only [List.length_cons] at h2; refine ⟨fun h => ?_, done_nodup D (i + 1) (by omega) (by omega)⟩; obtain ⟨f, hf, e⟩ := List.mem_map.1 h; obtain ⟨k, rs, hk, _, rfl⟩ := doneL_mem hf; have := name_nat (by omega) (by omega) h1 (by omega) (show nameS ((i + 1 + k : Nat) : Int) = nameS (i : Int) from e); omega
theorem logL_nodup (h : cntL D c ≤ 999999998) : ((logL D c s).map (·.name)).Nodup := by
 have hD : D.length ≤ cntL D c := by rw [cntL]; omega
 rw [logL, List.map_append, List.nodup_append]; refine ⟨done_nodup D 1 (by decide) (by omega), ?_, ?_⟩
 ·rw [curL]; split <;> simp
 ·intro a ha b hb e
  subst e; rw [curL] at hb
  split at hb
  ·simp at hb
  ·rename_i hc
   rw [cntL, if_neg hc] at h; obtain ⟨f, hf, rfl⟩ := List.mem_map.1 ha; obtain ⟨k, rs, hk, _, rfl⟩ := doneL_mem hf; simp only [List.map_cons, List.map_nil, List.mem_singleton] at hb; have := name_nat (by omega) (by omega) (by omega) (by omega) (show nameS ((1 + k : Nat) : Int) = nameS ((D.length + 1 : Nat) : Int) from hb); omega
theorem rising_eq {l m : List Int} (h1 : l.Pairwise (· < ·)) (h2 : m.Pairwise (· < ·)) (h : ∀ x, x ∈ l ↔ x ∈ m) : l = m :=
  sorted_unique ((List.perm_ext_iff_of_nodup (h1.imp fun {a b} h e => by omega) (h2.imp fun {a b} h e => by omega)).2 h) (h1.imp fun h => by omega) (h2.imp fun h => by omega)
def upL (n : Nat) : List Int := (List.range n).map fun k => ((k + 1 : Nat) : Int)
theorem upL_rise (n : Nat) : (upL n).Pairwise (· < ·) := by
  rw [upL, List.pairwise_map]; exact List.pairwise_lt_range.imp fun h => by omega
theorem upL_mem {n : Nat} {x : Int} : x ∈ upL n ↔ 1 ≤ x ∧ x ≤ n := by
 rw [upL, List.mem_map]
 constructor
 ·rintro ⟨k, hk, rfl⟩
  have := List.mem_range.1 hk; omega
 ·rintro ⟨h1, h2⟩
  exact ⟨x.toNat - 1, List.mem_range.2 (by omega), by omega⟩
theorem segs_log (h : cntL D c ≤ 999999998) : segsL (logL D c s) = upL (cntL D c) := by
 refine rising_eq (segsL_rise (logL_nodup h)) (upL_rise _) fun x => ?_; rw [segsL_mem, upL_mem]
 constructor
 ·rintro ⟨h1, h2, h3⟩
  obtain ⟨f, hf, e⟩ := hasL_iff.1 h3; obtain ⟨k, k1, k2, e2⟩ := logL_mem hf; have := name_inj (n := (k : Int)) (m := x) (by omega) (by omega) h1 h2 (e2.symm.trans e); omega
 ·rintro ⟨h1, h2⟩
  refine ⟨h1, by omega, ?_⟩; have := logL_has (D := D) (c := c) (s := s) (k := x.toNat) (by omega) (by omega)
  rwa [show ((x.toNat : Nat) : Int) = x by omega] at this
theorem last_log (h : cntL D c ≤ 999999998) : lastP (logL D c s) = ((cntL D c : Nat) : Int) := by
 rw [lastP, segs_log h, upL]; rcases Nat.eq_zero_or_pos (cntL D c) with h0 | h0
 ·rw [h0]; rfl
 ·obtain ⟨n, hn⟩ : ∃ n, cntL D c = n + 1 := ⟨cntL D c - 1, by omega⟩
  rw [hn, List.range_succ, List.map_append]; simp
theorem look_cur (h : cntL D c ≤ 999999998) (hc : c ≠ []) : lookL (logL D c s) (nameS ((D.length + 1 : Nat) : Int)) = some (segF (D.length + 1) c s) :=
 lookL_mem (logL_nodup h) (f := segF (D.length + 1) c s) (List.mem_append_right _ (by rw [curL, if_neg hc]; simp))
theorem updL_app (a b : List PF) (n : ByteArray) (u : PF → PF) : updL (a ++ b) n u = updL a n u ++ updL b n u := by rw [updL, List.map_append]; rfl
theorem upd_none {pl : List PF} {n : ByteArray} {u : PF → PF} (h : ∀ f ∈ pl, f.name ≠ n) : updL pl n u = pl := by
 rw [updL]; refine (List.map_congr_left fun f hf => if_neg (h f hf)).trans (List.map_id _)
theorem done_ne (h : cntL D c ≤ 999999998) (hc : c ≠ []) : ∀ f ∈ doneL 1 D, f.name ≠ nameS ((D.length + 1 : Nat) : Int) := by
 intro f hf e; rw [cntL, if_neg hc] at h; obtain ⟨k, rs, hk, _, rfl⟩ := doneL_mem hf; have := name_nat (by omega) (by omega) (by omega) (by omega) (show nameS ((1 + k : Nat) : Int) = nameS ((D.length + 1 : Nat) : Int) from e); omega
theorem upd_cur (h : cntL D c ≤ 999999998) (hc : c ≠ []) (u : PF → PF) : updL (logL D c s) (nameS ((D.length + 1 : Nat) : Int)) u = doneL 1 D ++ [u (segF (D.length + 1) c s)] := by
 rw [logL, updL_app, upd_none (done_ne h hc), curL, if_neg hc]; simp [updL, segF]
theorem sync_cur (h : cntL D c ≤ 999999998) (hc : c ≠ []) : syncL (logL D c s) (nameS ((D.length + 1 : Nat) : Int)) = logL D c (lenF c) := by
 rw [syncL, upd_cur h hc, logL, curL, if_neg hc]; rfl
def usedF (D : List (List (List UInt8))) (c : List (List UInt8)) : Nat := lenF (D.flatten ++ c)
theorem lenF_app (a b : List (List UInt8)) : lenF (a ++ b) = lenF a + lenF b := by rw [lenF, lenF, lenF, List.flatMap_append, List.length_append]
theorem used_done : ∀ (D : List (List (List UInt8))) (i : Nat), usedL (doneL i D) = lenF D.flatten
 | [], _ => rfl
 | x :: D, i => by
  have := used_done D (i + 1); rw [usedL] at this; rw [doneL, usedL, List.map_cons, List.sum_cons, this, List.flatten_cons, lenF_app]; rfl
theorem used_log : usedL (logL D c s) = usedF D c := by
 have h1 := used_done D 1; rw [usedL] at h1; rw [logL, usedL, List.map_append, List.sum_append_nat, h1, usedF, lenF_app, curL]
 split
 ·rename_i hc; subst hc; rfl
 ·simp [segF, lenF]
theorem logL_len : (logL D c s).length = cntL D c := by
 rw [logL, List.length_append, doneL_len, cntL, curL]
 split <;> rfl
theorem no_new (h : cntL D c ≤ 999999998) {k : Nat} (hk : cntL D c < k) (hk2 : k ≤ 999999999) : hasL (logL D c s) (nameS (k : Int)) = false := by
 rw [Bool.eq_false_iff]; intro hh; obtain ⟨f, hf, e⟩ := hasL_iff.1 hh; obtain ⟨j, j1, j2, e2⟩ := logL_mem hf; have := name_nat (by omega) (by omega) (by omega) (by omega) (e2.symm.trans e); omega
theorem appE_zero {room : Int} {pl : List PF} {n : ByteArray} {b : List UInt8} (hm : mayN n = true) (hl : hasL pl n = true ∨ pl.length < 64) (hr : (b.length : Int) ≤ room - (usedL pl : Int)) : appE room pl n b = 0 := by
 rw [appE, if_pos hm, if_neg]; rintro (⟨h1, h2⟩ | h)
 ·rcases hl with h3 | h3
  ·rw [h3] at h1; cases h1
  ·omega
 ·omega
/-- what a record makes of a state -/
def stepA (D : List (List (List UInt8))) (c : List (List UInt8)) (s : Nat) (b : List UInt8) : List (List (List UInt8)) × List (List UInt8) × Nat :=
  if c = [] then (D, [b], 0) else if 4096 ≤ lenF c then (D ++ [c], [b], 0) else (D, c ++ [b], s)
theorem append_log {room : Int} {b : List UInt8} (h0 : 0 < b.length) (h1 : b.length ≤ 65536) (hcnt : cntL D c ≤ 60) (hD : c = [] → D = []) (hr : ((frameB b).length : Int) ≤ room - (usedF D c : Int)) :
  appendP room (logL D c s) b = (0, logL (stepA D c s b).1 (stepA D c s b).2.1 (stepA D c s b).2.2) := by
 have hm := mayP_zero h0 h1; have hlast := last_log (s := s) (D := D) (c := c) (by omega); rw [appendP, if_neg (by rw [hm]; decide), hlast, stepA]; by_cases hc : c = []
 ·have hD0 := hD hc
  subst hc; subst hD0; have e0 : logL [] [] s = [] := rfl; have en : nameS (max (((0 : Nat) : Int)) 1) = nameS 1 := rfl; have hE : appE room [] (nameS 1) (frameB b) = 0 := appE_zero name1_may (.inr (by decide)) (by rw [show usedF [] [] = 0 from rfl] at hr; simpa [usedL] using hr); rw [e0]; have e1 : cntL [] [] = 0 := rfl; rw [if_neg (by rw [e1]; omega), if_pos rfl, e1, if_neg (by decide), en, hE, appL, hE, if_pos rfl]; simp [hasL, logL, doneL, curL, segF]
 ·have hcn : cntL D c = D.length + 1 := by rw [cntL, if_neg hc]
  have hsz : sizeB (logL D c s) (nameS ((cntL D c : Nat) : Int)) = lenF c := by rw [hcn, sizeB, look_cur (by omega) hc]; rfl
  rw [if_neg hc, hsz]; by_cases hb : 4096 ≤ lenF c
  ·rw [if_pos ⟨by omega, hb⟩, if_pos hb, if_neg (by omega), show max (((cntL D c : Nat) : Int) + 1) 1 = ((cntL D c + 1 : Nat) : Int) by omega, hcn, sync_cur (by omega) hc]
   have hno : hasL (logL D c (lenF c)) (nameS ((D.length + 1 + 1 : Nat) : Int)) = false := no_new (by omega) (by omega) (by omega); have hE : appE room (logL D c (lenF c)) (nameS ((D.length + 1 + 1 : Nat) : Int)) (frameB b) = 0 := appE_zero (name_may (by omega) (by omega)) (.inr (by rw [logL_len]; omega)) (by rw [used_log]; exact hr); rw [hE, appL, hE, if_pos rfl, hno, if_neg (by decide)]
   congr 1
   rw [logL, logL, curL, if_neg hc, doneL_app, curL, if_neg (by simp), Nat.add_comm 1 D.length]; simp [segF, lenF]
  ·rw [if_neg (by omega), if_neg hb, if_neg (by omega), show max ((cntL D c : Nat) : Int) 1 = ((cntL D c : Nat) : Int) by omega, hcn]
   have hhas : hasL (logL D c s) (nameS ((D.length + 1 : Nat) : Int)) = true := logL_has (by omega) (by omega); have hE : appE room (logL D c s) (nameS ((D.length + 1 : Nat) : Int)) (frameB b) = 0 := appE_zero (name_may (by omega) (by omega)) (.inl hhas) (by rw [used_log]; exact hr); rw [hE, appL, hE, if_pos rfl, hhas, if_pos rfl, upd_cur (by omega) hc, logL, curL, if_neg (by simp)]; simp [segF, List.flatMap_append]
end
/-! ### segments one behind the other -/
def runN (i n : Nat) : List Int := (List.range' i n).map fun k => ((k : Nat) : Int)
theorem runN_mem {i n : Nat} {x : Int} : x ∈ runN i n ↔ (i : Int) ≤ x ∧ x < ((i + n : Nat) : Int) := by
 rw [runN, List.mem_map]
 constructor
 ·rintro ⟨k, hk, rfl⟩
  rw [List.mem_range'_1] at hk; omega
 ·rintro ⟨h1, h2⟩
  exact ⟨x.toNat, by rw [List.mem_range'_1]; omega, by omega⟩
theorem runN_rise (i n : Nat) : (runN i n).Pairwise (· < ·) := by
  rw [runN, List.pairwise_map]; exact (List.pairwise_lt_range' ..).imp fun h => by omega
def Named (i n : Nat) (pl : List PF) : Prop := pl.map (·.name) = (runN i n).map nameS
theorem has_map {pl : List PF} {s : ByteArray} : hasL pl s = true ↔ s ∈ pl.map (·.name) := by
 rw [hasL_iff, List.mem_map]
section
variable {i n : Nat} {pl : List PF}
theorem Named.nodup (h : Named i n pl) (h1 : 1 ≤ i) (h2 : i + n ≤ 999999999) : (pl.map (·.name)).Nodup := by
 rw [h, List.Nodup, List.pairwise_map]; refine (runN_rise i n).imp_of_mem fun {a b} ha hb hlt e => ?_; rw [runN_mem] at ha hb; have := name_inj (n := a) (m := b) (by omega) (by omega) (by omega) (by omega) e; omega
theorem Named.segs (h : Named i n pl) (h1 : 1 ≤ i) (h2 : i + n ≤ 999999999) : segsL pl = runN i n := by
 refine rising_eq (segsL_rise (h.nodup h1 h2)) (runN_rise _ _) fun x => ?_; rw [segsL_mem, has_map, h, List.mem_map]
 constructor
 ·rintro ⟨x1, x2, y, hy, e⟩
  have hy2 := hy; rw [runN_mem] at hy2; have := name_inj (n := y) (m := x) (by omega) (by omega) x1 x2 e; exact this ▸ hy
 ·intro hx
  have hx2 := hx; rw [runN_mem] at hx2; exact ⟨by omega, by omega, x, hx, rfl⟩
theorem Named.fresh (h : Named i n pl) : hasL pl freshN = false := by
 rw [Bool.eq_false_iff]; intro hh; rw [has_map, h, List.mem_map] at hh; obtain ⟨y, _, e⟩ := hh; exact fresh_not _ e
theorem names_syncs (pl : List PF) (ns : List Int) : (syncsL pl ns).map (·.name) = pl.map (·.name) := by
 rw [syncsL, List.map_map]; refine List.map_congr_left fun f _ => ?_; simp only [Function.comp]
 split <;> rfl
theorem bytes_syncs (pl : List PF) (ns : List Int) : (syncsL pl ns).map (·.bytes) = pl.map (·.bytes) := by
 rw [syncsL, List.map_map]; refine List.map_congr_left fun f _ => ?_; simp only [Function.comp]
 split <;> rfl
theorem read_of : ∀ {a b : List PF}, a.map (·.name) = b.map (·.name) → a.map (·.bytes) = b.map (·.bytes) → ∀ s, readB a s = readB b s
 | [], [], _, _, s => rfl
 | [], _ :: _, h, _, _ => by cases h
 | _ :: _, [], h, _, _ => by cases h
 | f :: a, g :: b, h1, h2, s => by
  simp only [List.map_cons, List.cons.injEq] at h1 h2; have ih := read_of h1.2 h2.2 s; rw [readB, readB, lookL, lookL] at ih ⊢; rw [List.find?_cons, List.find?_cons, h1.1]
  split
  ·simp [h2.1]
  ·exact ih
/-- each segment holds whole frames -/
def Whole (pl : List PF) : List Int → List (List (List UInt8)) → Prop
  | [], [] => True
  | n :: r, rs :: t => readB pl (nameS n) = rs.flatMap frameB ∧ (∀ p ∈ rs, p.length ≤ 65536) ∧ Whole pl r t
  | _, _ => False
theorem Whole.same {pl' : List PF} (e : ∀ s, readB pl' s = readB pl s) : ∀ {ns : List Int} {R : List (List (List UInt8))}, Whole pl ns R → Whole pl' ns R
 | [], [], _ => trivial
 | n :: r, rs :: t, h => ⟨(e _).trans h.1, h.2.1, Whole.same e h.2.2⟩
 | [], _ :: _, h => h.elim
 | _ :: _, [], h => h.elim
theorem Whole.app : ∀ {ns ms : List Int} {R T : List (List (List UInt8))}, Whole pl ns R → Whole pl ms T → Whole pl (ns ++ ms) (R ++ T)
 | [], _, [], _, _, h2 => h2
 | n :: r, _, rs :: t, _, h, h2 => ⟨h.1, h.2.1, Whole.app h.2.2 h2⟩
 | [], _, _ :: _, _, h, _ => h.elim
 | _ :: _, _, [], _, h, _ => h.elim
theorem readP_whole {room : Int} : ∀ {ns : List Int} {R : List (List (List UInt8))}, Whole pl ns R → ∀ (more : List Int) (acc : List (List UInt8)), readP room pl (ns ++ more) acc = readP room pl more (R.flatten.foldl stepB acc)
 | [], [], _, more, acc => rfl
 | n :: r, rs :: t, h, more, acc => by
  obtain ⟨h1, h2, h3⟩ := h; have hf := frames_all rs h2; rw [List.cons_append, readP, if_pos (by rw [h1, hf]), h1, hf, readP_whole h3, List.flatten_cons, List.foldl_append]
 | [], _ :: _, h, _, _ => h.elim
 | _ :: _, [], h, _, _ => h.elim
theorem open_whole {room : Int} {R : List (List (List UInt8))} (hN : Named i n pl) (h1 : 1 ≤ i) (h2 : i + n ≤ 999999999) (hW : Whole pl (runN i n) R) : openP room pl = (0, R.flatten.foldl stepB [], syncsL pl (runN i n)) := by
 have e : readAll room pl = (0, R.flatten.foldl stepB [], pl) := by
  have := readP_whole (room := room) hW [] []; rw [List.append_nil] at this; unfold readAll; rw [hN.segs h1 h2, this, readP]
 rw [openP, rem_no hN.fresh, e, if_pos rfl, hN.segs h1 h2]
end
/-! ### what a crash leaves -/
def kpt (keep : Int) (m : Nat) : Nat := (keep % 18446744073709551616).toNat % (m + 1)
theorem kpt_le (keep : Int) (m : Nat) : kpt keep m ≤ m := by
 have := Nat.mod_lt (keep % 18446744073709551616).toNat (show 0 < m + 1 by omega); rw [kpt]; omega
def tornF (keep : Int) (f : PF) : PF := ⟨f.name, f.bytes.take (f.synced + kpt keep (f.bytes.length - f.synced)), (f.bytes.take (f.synced + kpt keep (f.bytes.length - f.synced))).length⟩
def tearsP (pl : List PF) (keep : Int) : List PTear := (namesS pl).map fun n => ⟨n, ((kpt keep (sizeB pl n - syncB pl n) : Nat) : Int), []⟩
theorem torn_tears {room : Int} {pl : List PF} {keep : Int} (h : PLOk room pl) : ∀ (ns : List ByteArray) (seen : List ByteArray), (∀ n ∈ ns, hasL pl n = true) → ns.Nodup → (∀ n ∈ ns, ¬ n ∈ seen) → tornE pl (ns.map fun n => (⟨n, ((kpt keep (sizeB pl n - syncB pl n) : Nat) : Int), []⟩ : PTear)) seen = 0
 | [], _, _, _, _ => rfl
 | n :: ns, seen, h1, h2, h3 => by
  obtain ⟨f, hf, rfl⟩ := hasL_iff.1 (h1 n (by simp)); have hl := lookL_mem h.nodup hf; have hs := h.sync f hf; have hk := kpt_le keep (f.bytes.length - f.synced); rw [List.map_cons, tornE, if_pos (h.may f hf), hl]; simp only; have e1 : sizeB pl f.name - syncB pl f.name = f.bytes.length - f.synced := by rw [sizeB, syncB, hl]; rfl
  rw [if_neg]
  ·rw [List.nodup_cons] at h2
   refine torn_tears h ns _ (fun m hm => h1 m (by simp [hm])) h2.2 fun m hm hm2 => ?_; rcases List.mem_cons.1 hm2 with e | hm2
   ·subst e; exact h2.1 hm
   ·exact h3 m (by simp [hm]) hm2
  ·rintro (hc | hc)
   ·obtain ⟨s, hs2, e⟩ := List.any_eq_true.1 hc
    have : s = f.name := by simpa using e
    subst this; exact h3 _ (by simp) hs2
   ·rw [e1, tearOk] at hc
    simp only [List.length_nil, Bool.and_eq_false_iff, decide_eq_false_iff_not] at hc; omega
theorem crash_tears {room : Int} {pl : List PF} (keep : Int) (h : PLOk room pl) : tornE pl (tearsP pl keep) [] = 0 ∧ crashL pl (tearsP pl keep) = pl.map (tornF keep) := by
 have hno : ∀ n, n ∈ namesS pl ↔ hasL pl n = true := fun n => by rw [namesS, sortN_mem.mem_iff, has_map]
 have he : tornE pl (tearsP pl keep) [] = 0 := torn_tears h _ [] (fun n hn => (hno n).1 hn) (by rw [namesS, sortN_mem.nodup_iff]; exact h.nodup) (fun _ _ h => by cases h); refine ⟨he, ?_⟩; rw [crashL, if_pos he]; refine List.map_congr_left fun f hf => ?_; have hl := lookL_mem h.nodup hf; have hm : f.name ∈ namesS pl := (hno _).2 (hasL_iff.2 ⟨f, hf, rfl⟩)
 have hfi : (tearsP pl keep).find? (fun t => decide (t.name = f.name)) = some ⟨f.name, ((kpt keep (sizeB pl f.name - syncB pl f.name) : Nat) : Int), []⟩ := by
  rw [tearsP, List.find?_map]
  have : (namesS pl).find? ((fun t : PTear => decide (t.name = f.name)) ∘ fun n => (⟨n, ((kpt keep (sizeB pl n - syncB pl n) : Nat) : Int), []⟩ : PTear)) = some f.name := by
   generalize namesS pl = l at hm
   induction l with
   | nil => cases hm
   | cons x l ih =>
    rw [List.find?_cons]; by_cases c : x = f.name
    ·subst c; simp
    ·rcases List.mem_cons.1 hm with e | hm
     ·exact absurd e.symm c
     ·simp only [Function.comp, decide_eq_false c]
      exact ih hm
  rw [this]; rfl
 rw [crashF, hfi]; have e1 : sizeB pl f.name - syncB pl f.name = f.bytes.length - f.synced := by rw [sizeB, syncB, hl]; rfl
 simp only [tornB, e1, Int.toNat_natCast, List.append_nil]
 rfl
/-! ### a log, records told -/
def LogAt (syn : Nat) (rs : List (List UInt8)) (pl : List PF) : Prop :=
  ∃ (D : List (List (List UInt8))) (c : List (List UInt8)) (m : Nat), pl = logL D c (lenF (c.take m)) ∧ D.flatten ++ c = rs ∧ (c = [] → D = []) ∧ cntL D c ≤ rs.length ∧ m ≤ c.length ∧ syn ≤ D.flatten.length + m
theorem lenF_le : ∀ {rs : List (List UInt8)}, (∀ p ∈ rs, p.length ≤ 5000) → lenF rs ≤ 5013 * rs.length
 | [], _ => Nat.le_refl _
 | p :: rs, h => by
  have h1 := h p (by simp); have h2 := lenF_le fun q hq => h q (List.mem_cons_of_mem p hq); have h3 := frameB_len p (by omega); rw [lenF] at h2 ⊢; rw [List.flatMap_cons, List.length_append, List.length_cons]; omega
section
variable {syn : Nat} {rs : List (List UInt8)} {pl : List PF}
theorem LogAt.append (h : LogAt syn rs pl) {b : List UInt8} (h0 : 0 < b.length) (h1 : b.length ≤ 5000) (hr : rs.length ≤ 50) (hrs : ∀ p ∈ rs, p.length ≤ 5000) : (appendP 4194304 pl b).1 = 0 ∧ LogAt syn (rs ++ [b]) (appendP 4194304 pl b).2 := by
 obtain ⟨D, c, m, rfl, rfl, hD, hcnt, hm, hsyn⟩ := h; have hf := frameB_len b (by omega); have hu : usedF D c ≤ 5013 * (D.flatten ++ c).length := lenF_le hrs; have := append_log (room := 4194304) (s := lenF (c.take m)) (b := b) (D := D) (c := c) h0 (by omega) (by omega) hD (by omega); rw [this]; refine ⟨rfl, ?_⟩; rw [stepA]; by_cases c0 : c = []
 ·have d0 := hD c0
  subst c0; subst d0; rw [if_pos rfl]; refine ⟨[], [b], 0, rfl, rfl, (fun h => by cases h), Nat.le_refl _, by simp, ?_⟩; simp at hm hsyn; omega
 ·rw [if_neg c0]
  split
  ·refine ⟨D ++ [c], [b], 0, rfl, by simp, (fun h => by cases h), ?_, by simp, ?_⟩
   ·rw [cntL, if_neg c0] at hcnt
    rw [cntL, if_neg (by simp)]; simp at hcnt ⊢; omega
   ·rw [List.flatten_append, List.length_append]
    simp only [List.flatten_cons, List.flatten_nil, List.append_nil]; omega
  ·refine ⟨D, c ++ [b], m, ?_, by simp, (fun h => by simp at h), ?_, by simp; omega, hsyn⟩
   ·rw [List.take_append_of_le_length hm]
   ·rw [cntL, if_neg c0] at hcnt
    rw [cntL, if_neg (by simp)]; simp at hcnt ⊢; omega
theorem LogAt.sync (h : LogAt syn rs pl) (hr : rs.length ≤ 50) : LogAt rs.length rs (syncP pl) := by
 obtain ⟨D, c, m, rfl, rfl, hD, hcnt, hm, hsyn⟩ := h; have hl := last_log (s := lenF (c.take m)) (D := D) (c := c) (by omega); rw [syncP, hl]; by_cases c0 : c = []
 ·have d0 := hD c0
  subst c0; subst d0; have e0 : ((cntL [] [] : Nat) : Int) = 0 := rfl; rw [if_pos e0]; exact ⟨[], [], 0, rfl, rfl, fun _ => rfl, Nat.le_refl _, Nat.le_refl _, Nat.le_refl _⟩
 ·have e : cntL D c = D.length + 1 := by rw [cntL, if_neg c0]
  rw [e, if_neg (by omega), sync_cur (by omega) c0]; exact ⟨D, c, c.length, by rw [List.take_length], rfl, hD, hcnt, Nat.le_refl _, by simp⟩
/-- a disk whose segments hold whole frames -/
def Settled (pl : List PF) (recs : List (List UInt8)) : Prop := ∃ n R, Named 1 n pl ∧ n ≤ 60 ∧ Whole pl (runN 1 n) R ∧ R.flatten = recs
theorem Settled.open {recs : List (List UInt8)} (h : Settled pl recs) (hne : ∀ p ∈ recs, p ≠ []) {room : Int} : (openP room pl).1 = 0 ∧ (openP room pl).2.1 = recs ∧ (∀ s, readB (openP room pl).2.2 s = readB pl s) ∧ (openP room pl).2.2.map (·.name) = pl.map (·.name) := by
 obtain ⟨n, R, h1, h2, h3, rfl⟩ := h; rw [open_whole h1 (by decide) (by omega) h3, steps_all _ _ hne]; exact ⟨rfl, by simp, fun s => read_of (names_syncs _ _) (bytes_syncs _ _) s, names_syncs _ _⟩
end
end Go.Proofs.YtlhepanmdchjoaaGreatDoor

/-
  Layer 7: tears, begun; SeglogReplaced.
-/
namespace Go.Proofs.YtlhepanmdchjoaaGreatDoor
attribute [local irreducible] St1 RL RA RT RT1 Run
attribute [local irreducible] crcN crcL crcS crcB numL leL unfR nameS segsL sortZ segI segO hasP restP
attribute [local irreducible] readAll mayP frameB
def tearsC (pl : List PF) (keep : Int) : List TearC := (namesS pl).map fun n => ⟨n, ((kpt keep (sizeB pl n - syncB pl n) : Nat) : Int), ⟨none, 0, 0⟩⟩
theorem tears_snoc {pl : List PF} {keep : Int} {i : Nat} {n : ByteArray} (h : (namesS pl)[i]? = some n) : (tearsC pl keep).take (i + 1) = (tearsC pl keep).take i ++ [⟨n, ((kpt keep (sizeB pl n - syncB pl n) : Nat) : Int), ⟨none, 0, 0⟩⟩] := by
 rw [List.take_add_one, tearsC, List.getElem?_map, h]; rfl
theorem tearsC_len (pl : List PF) (keep : Int) : (tearsC pl keep).length = (namesS pl).length := List.length_map ..
theorem syncB_le {room : Int} {pl : List PF} (h : PLOk room pl) (n : ByteArray) : syncB pl n ≤ sizeB pl n ∧ sizeB pl n ≤ 16777216 := by
 refine ⟨?_, sizeB_le h n⟩; rw [syncB, sizeB]
 cases hl : lookL pl n with
 | none => exact Nat.le_refl _
 | some f =>
  have := h.sync f (List.mem_of_find?_eq_some hl); exact this
theorem tears_at {room : Int} {pl : List PF} (h : PLOk room pl) (w : World) (keep : Int) : TearsAt w (tearsC pl keep) (tearsP pl keep) := by
 refine ⟨by rw [tearsC, tearsP, List.length_map, List.length_map], fun i t p h1 h2 => ?_, fun p hp => ?_⟩
 ·rw [tearsC, List.getElem?_map, Option.map_eq_some_iff] at h1
  rw [tearsP, List.getElem?_map, Option.map_eq_some_iff] at h2; obtain ⟨n, hn, rfl⟩ := h1; obtain ⟨m, hm, rfl⟩ := h2; rw [hn] at hm
  cases hm
  exact ⟨rfl, rfl, rfl, .inl rfl⟩
 ·rw [tearsP, List.mem_map] at hp
  obtain ⟨n, hn, rfl⟩ := hp; obtain ⟨i, hi⟩ := List.getElem?_of_mem hn; have h1 := names_may h hi; have h2 := syncB_le h n; have h3 := kpt_le keep (sizeB pl n - syncB pl n); simp only [List.length_nil]; omega
theorem kpt_val (keep : Int) (a b : Nat) (h : b ≤ a) (h2 : a ≤ 16777216) : IntKind.i64.wrap ((IntKind.u64.wrap keep).tmod (IntKind.u64.wrap (((a : Nat) : Int) - ((b : Nat) : Int) + 1))) = ((kpt keep (a - b) : Nat) : Int) := by
 have hw : ∀ z, IntKind.u64.wrap z = z % 18446744073709551616 := fun z => by simp [IntKind.wrap, IntKind.bits, IntKind.signed]
 have h1 : IntKind.u64.wrap (((a : Nat) : Int) - ((b : Nat) : Int) + 1) = ((a - b + 1 : Nat) : Int) := by rw [hw]; omega
 rw [h1, hw, Int.tmod_eq_emod_of_nonneg (by omega)]; have hk := kpt_le keep (a - b)
 have e : (keep % 18446744073709551616) % ((a - b + 1 : Nat) : Int) = ((kpt keep (a - b) : Nat) : Int) := by
  obtain ⟨k, hk⟩ : ∃ k : Nat, keep % 18446744073709551616 = k := ⟨(keep % 18446744073709551616).toNat, by omega⟩; rw [kpt, hk, Int.toNat_natCast]; omega
 rw [e, wrap64 _ (by omega) (by omega)]
theorem kpt_ne {a b : Nat} (h : b ≤ a) (h2 : a ≤ 16777216) : IntKind.u64.wrap (((a : Nat) : Int) - ((b : Nat) : Int) + 1) ≠ 0 := by
 have hw : ∀ z, IntKind.u64.wrap z = z % 18446744073709551616 := fun z => by simp [IntKind.wrap, IntKind.bits, IntKind.signed]
 rw [hw]; omega
theorem map_take {rs : List RB} {i : Nat} {r : RB} (h : rs[i]? = some r) : (rs.map RB.b).take (i + 1) = (rs.map RB.b).take i ++ [r.b] := by
 have g1 : (rs.map RB.b)[i]? = some r.b := by rw [List.getElem?_map, h]; rfl
 rw [List.take_add_one, g1]; rfl
attribute [local irreducible] openP appendP replaceP syncP
theorem en17 : Enters Tryz.prog 17 := enters_of Tryz.func17 rfl (by kernel_rfl)
theorem en21 : Enters Tryz.prog 21 := enters_of Tryz.func21 rfl (by kernel_rfl)
theorem en22 : Enters Tryz.prog 22 := enters_of Tryz.func22 rfl (by kernel_rfl)
set_option maxRecDepth 100000 in
set_option maxHeartbeats 4000000 in
theorem tears7_ (d : Nat) (F : Nat → Prop) (room : Int) (pl : List PF) (keep : Int) (w : World) (hD : DiskAt w d F room pl) :
  Calls Tryz.prog 22 #[.pointer (some ⟨d, 0, none⟩), .int .i64 (keep)] w (Ret (fun v w' => ∃ a' c', v = .slice a' (tearsC pl keep).length c' ∧ OwnSl w' 98 a' c' (tearsC pl keep) ∧ (∀ q, own a' q → w.heap.size ≤ q) ∧ Ext w w')) := by
 have hok := hD.ok; have hnl : (namesS pl).length ≤ 64 := by rw [namesS, sortN_mem.length_eq, List.length_map]; exact hok.len
 have htl := tearsC_len pl keep; refine calls_run (n := 41) Tryz.func22 rfl rfl rfl <| Run.seq <| Run.region <| RL.val (x_assignSl rfl) <| RL.nil <| Run.seq <| Run.region <| RL.val (x_assignSl rfl) ?_; refine RL.nil <| Run.seq <| Run.seq <| Run.region <| RL.val (x_moveP rfl) <| RL.st rfl <| St1.call (vals := [.pointer (some ⟨d, 0, none⟩)]) en24 rfl (filesD hD) ?_; rintro _ w_3 ⟨a_1, c_2, rfl, ho_4, hg_5, K_6⟩; clear hg_5; replace hD := hD.ext K_6; have K0 := (K_6 : Ext w _); refine RL.val (x_lenSl Tryz.underlying61 rfl) <| RL.val (x_moveI rfl) <| RL.nil <| Run.block ?_; refine Run.loop (ι := Nat) (fun i ρ' w' => ∃ az : Option Addr, ∃ cz : Nat, Holds ρ' [(0, .pointer (some ⟨d, 0, none⟩)), (1, .int .i64 (keep)), (5, .slice (az) (((tearsC pl keep).take i).length) (cz)), (12, .slice (a_1) ((namesS pl).length) (c_2)), (13, .int .i64 ((((namesS pl).length : Nat) : Int))), (14, .int .i64 (((i : Nat) : Int)))] ∧ Ext w w' ∧ (DiskAt w' d F room pl) ∧ (OwnSl w' 9 (a_1) (c_2) (namesS pl)) ∧ (OwnSl w' 98 az cz ((tearsC pl keep).take i)) ∧ (∀ q_, own az q_ → ¬ F q_) ∧ (∀ q_, own az q_ → ¬ own a_1 q_) ∧ (∀ q_, own az q_ → w.heap.size ≤ q_) ∧ (i ≤ (namesS pl).length)) (fun i => (namesS pl).length - i) 0 ?_ ?_
 ·rw [show (tearsC pl keep).take 0 = [] from List.take_zero]
  have ho_15 := OwnSl.nil (α := TearC) w_3 98; refine ⟨_, _, ⟨rfl, rfl, rfl, rfl, rfl, rfl, trivial⟩, K0, hD, ho_4, ho_15, (fun q_ h1 _ => own_none q_ h1), (fun q_ h1 _ => own_none q_ h1), (fun q_ h1 => absurd h1 (own_none q_)), ?_⟩
  ·omega
 clear hD ho_4; clear K0; rintro i ρ_16 w_9 ⟨az, cz, hH_10, K0, hD, ho_4, ho_11, pr_12, pr_13, pr_14, hi⟩ ih1; obtain ⟨ρ₀, rfl⟩ := hH_10.ex; clear hH_10; refine Run.seq <| Run.region <| RL.val (x_ltI rfl rfl) <| RL.nil <| Run.seq ?_; refine Run.cond rfl (fun hc15 => ?_) (fun hc15 => ?_)
 ·try simp only [br] at hc15
  refine Run.skip <| Run.seq <| Run.block <| Run.seq <| Run.region ?_; obtain ⟨b_17, o_18, s, hs, ha_19, hc_20⟩ := ho_4.sl.el (i := i) (by first | omega | (simp only [List.length_set]; omega)); refine RL.val (x_idxN Tryz.underlying61 ty9 rfl rfl ha_19 (by first | omega | (simp only [List.length_set]; omega))) <| RL.val (x_ldV (v := .string (s)) (y := s) ty9 rfl hc_20 rfl) <| RL.val (x_assignS rfl) <| RL.nil ?_; obtain ⟨hz0, hz1⟩ := names_may hok hs; obtain ⟨hz2, hz3⟩ := syncB_le hok s; have htk : ((tearsC pl keep).take i).length ≤ (tearsC pl keep).length := by rw [List.length_take]; omega
  refine Run.seq <| Run.region <| RL.val (x_moveP rfl) <| RL.val (x_moveS rfl) <| RL.st rfl <| St1.call (vals := [.pointer (some ⟨d, 0, none⟩), .string (s)]) en39 rfl (sizeD hD s (by first | omega | decide)) ?_; rintro _ w_23 ⟨rfl, K_24⟩; replace hD := hD.ext K_24; replace ho_4 := ho_4.ext K_24; replace ho_11 := ho_11.ext K_24; replace K0 := K0.ext K_24; refine RL.val (x_moveT rfl) <| RL.val (x_extract rfl rfl) <| RL.val (x_extract rfl rfl) <| RL.val (x_extract rfl rfl) <| RL.val (x_assignI rfl) <| RL.val (x_assignI rfl) <| RL.val (x_assignI rfl) <| RL.nil ?_; refine Run.region <| RL.val (x_moveSl rfl) <| RL.val (x_moveS rfl) <| RL.val (x_moveI rfl) <| RL.val (x_convI rfl ⟨_, Tryz.underlying3⟩ Tryz.underlying23) <| RL.val (x_moveI rfl) <| RL.val (x_moveI rfl) <| RL.val (x_sub rfl rfl (by omega) (by omega)) ?_; refine RL.val (x_add rfl rfl (by omega) (by omega)) <| RL.val (x_convI rfl ⟨_, Tryz.underlying3⟩ Tryz.underlying23) <| RL.val (x_rem rfl rfl (kpt_ne hz2 hz3)) <| RL.val (litI (c := ((kpt keep (sizeB pl s - syncB pl s) : Nat) : Int)) (x_convI rfl ⟨_, Tryz.underlying23⟩ Tryz.underlying3) (kpt_val keep _ _ hz2 hz3)) <| RL.val (x_build (cells := #[.string (s), .int .i64 (((kpt keep (sizeB pl s - syncB pl s) : Nat) : Int)), .slice (none) (0) (0)]) (by kernel_rfl)) <| RL.st rfl <| St1.buildSlice ([(⟨s, ((kpt keep (sizeB pl s - syncB pl s) : Nat) : Int), ⟨none, 0, 0⟩⟩ : TearC)] : List TearC) Tryz.underlying57 ty98 rfl rfl (by first | decide | (simp [Enc.size])) ?_; intro b_25 w_26 hl_29 ho_28 K_27; clear hl_29; replace hD := hD.ext K_27; replace ho_4 := ho_4.ext K_27; replace ho_11 := ho_11.ext K_27; replace K0 := K0.ext K_27; refine RL.st rfl <| St1.append (xs := (tearsC pl keep).take i) (ys := ([(⟨s, ((kpt keep (sizeB pl s - syncB pl s) : Nat) : Int), ⟨none, 0, 0⟩⟩ : TearC)] : List TearC)) Tryz.underlying57 ty98 rfl rfl rfl ho_11 ho_28.sl (by first | omega | (simp only [lr]; omega)) (by decide) ?_; intro a_34 c_35 w_36 ho_37 K_38 hm_39 hrm_40; have pr_41 : ∀ q_, own a_34 q_ → ¬ F q_ := hm_39.apart pr_12 hD.own_lt; have pr_42 : ∀ q_, own a_34 q_ → ¬ own a_1 q_ := hm_39.apart pr_13 ho_4.own_lt; have pg_44 : ∀ q_, own a_34 q_ → w.heap.size ≤ q_ := hm_39.ge pr_14 K0.size; replace hD := hD.keepO K_38 (fun q_ h1 h2 => pr_12 q_ h2 h1); replace ho_4 := ho_4.keepO K_38 (fun q_ h1 h2 => pr_13 q_ h2 h1); replace K0 := K0.new K_38 pr_14; clear hm_39; clear hrm_40; refine RL.val (x_assignSl rfl) <| RL.nil <| Run.inBlock <| Run.region <| RL.val (litI (c := ((i + 1 : Nat) : Int)) (x_add rfl rfl (by omega) (by omega)) rfl) <| RL.val (x_moveI rfl) <| RL.nil ?_; refine ih1 (i + 1) _ _ ?_ (by omega); rw [tears_snoc hs]; refine ⟨_, _, ⟨rfl, rfl, rfl, rfl, rfl, rfl, trivial⟩, K0, hD, ho_4, ho_37, pr_41, pr_42, pg_44, ?_⟩
  ·omega
 ·try simp only [br] at hc15
  refine Run.exit rfl <| Run.seq <| Run.region <| RL.val (x_moveSl rfl) <| RL.val (x_assignSl rfl) <| RL.nil <| Run.ret1 (v := .slice (az) (((tearsC pl keep).take i).length) (cz)) Tryz.func22 rfl rfl ?_; have hie : i = (namesS pl).length := by omega
  subst hie; have e_ : (tearsC pl keep).take (namesS pl).length = tearsC pl keep := List.take_of_length_le (by rw [tearsC_len]; exact Nat.le_refl _); rw [e_] at ho_11 ⊢; exact ⟨_, rfl, az, cz, rfl, ho_11, pr_14, K0⟩
end Go.Proofs.YtlhepanmdchjoaaGreatDoor

/-
  Layer 7: Concat of records.
-/
namespace Go.Proofs.YtlhepanmdchjoaaGreatDoor
attribute [local irreducible] St1 RL RA RT RT1 Run
attribute [local irreducible] crcN crcL crcS crcB numL leL unfR nameS segsL sortZ segI segO hasP restP
attribute [local irreducible] readAll mayP frameB
attribute [local irreducible] openP appendP replaceP syncP
/-- slices of slices, each with what it holds -/
structure PartsH (w : World) (ss : List SH) (bss : List (List SH)) : Prop where
  len : ss.length = bss.length
  all : ∀ (i : Nat) (s : SH) (bs : List SH), ss[i]? = some s → bss[i]? = some bs → s.len = bs.length ∧ SlOf w s.a bs
theorem PartsH.ext {w w' : World} {ss : List SH} {bss : List (List SH)} (h : PartsH w ss bss) (k : Ext w w') : PartsH w' ss bss :=
 ⟨h.len, fun i s bs h1 h2 => have h3 := h.all i s bs h1 h2; ⟨h3.1, h3.2.ext k⟩⟩
theorem PartsH.two {w : World} {a b : SH} {x y : List SH} (h1 : a.len = x.length) (h2 : SlOf w a.a x) (h3 : b.len = y.length) (h4 : SlOf w b.a y) : PartsH w [a, b] [x, y] :=
 ⟨rfl, fun i s bs hx hb => by
  match i with
  | 0 => simp at hx hb; subst hx; subst hb; exact ⟨h1, h2⟩
  | 1 => simp at hx hb; subst hx; subst hb; exact ⟨h3, h4⟩
  | i + 2 => simp at hx⟩
theorem ty22 : Ty Tryz.prog 22 1 24 (.slice (none) (0) (0)) false := ty_of (by kernel_rfl) (by kernel_rfl)
end Go.Proofs.YtlhepanmdchjoaaGreatDoor

/-
  Layer 7: SeglogKeeps.
-/
namespace Go.Proofs.YtlhepanmdchjoaaGreatDoor
attribute [local irreducible] St1 RL RA RT RT1 Run
attribute [local irreducible] crcN crcL crcS crcB numL leL unfR nameS segsL sortZ segI segO hasP restP
attribute [local irreducible] readAll mayP frameB
attribute [local irreducible] openP appendP replaceP syncP
theorem look_names {room : Int} {pl : List PF} (h : PLOk room pl) {s : ByteArray} (hs : s ∈ namesS pl) : lookE pl s = 0 := by
 rw [namesS, sortN_mem.mem_iff] at hs; obtain ⟨f, hf, rfl⟩ := List.mem_map.1 hs; exact look_has (h.may f hf) (hasL_iff.2 ⟨f, hf, rfl⟩)
theorem names_nodup {room : Int} {pl : List PF} (h : PLOk room pl) : (namesS pl).Nodup := sortN_mem.nodup_iff.2 h.nodup
theorem take_no {l : List ByteArray} {i : Nat} {s : ByteArray} (hn : l.Nodup) (hs : l[i]? = some s) : ∀ x ∈ l.take i, x ≠ s := by
 intro x hx e; subst e; obtain ⟨hi, e⟩ := List.getElem?_eq_some_iff.1 hs; obtain ⟨j, hj, e2⟩ := List.getElem_of_mem hx; rw [List.getElem_take] at e2; rw [List.length_take] at hj; have := (List.getElem_inj (h₀ := by omega) (h₁ := hi) hn).1 (e2.trans e.symm); omega
theorem equalR_yes (a : Option Addr) (rs : List RB) (c : Nat) (a2 : Option Addr) (ts : List RB) (c2 : Nat) (w : World) (hs : SlOf w a (rs.map RB.h)) (hs2 : SlOf w a2 (ts.map RB.h)) (hq : RecsQ w rs) (hq2 : RecsQ w ts) (hl : rs.length ≤ 4294967295) (hl2 : ts.length ≤ 4294967295) (he : rs.map RB.b = ts.map RB.b) :
  Calls Tryz.prog 14 #[.slice a (rs.map RB.h).length c, .slice a2 (ts.map RB.h).length c2] w (Ret fun v w' => v = .bool true ∧ Ext w w') :=
 ret_mono (equalR_ a rs c a2 ts c2 w hs hs2 hq hq2 hl hl2) fun v w' h => ⟨by rw [h.1, decide_eq_true he], h.2⟩
theorem en16 : Enters Tryz.prog 16 := enters_of Tryz.func16 rfl (by kernel_rfl)
end Go.Proofs.YtlhepanmdchjoaaGreatDoor
