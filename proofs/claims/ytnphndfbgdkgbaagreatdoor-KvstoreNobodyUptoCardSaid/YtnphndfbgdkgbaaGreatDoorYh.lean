/-
  Layer 7: Replace.
-/
import Derived.Test.YtnphndfbgdkgbaaGreatDoorRows
import Derived.Test.YtnphndfbgdkgbaaGreatDoorYg
namespace Go.Proofs.YtnphndfbgdkgbaaGreatDoor
attribute [local irreducible] St1 RL RA RT RT1 Run
attribute [local irreducible] crcN crcL crcS crcB numL leL unfR nameS segsL sortZ segI segO hasP restP
attribute [local irreducible] readAll mayP frameB

def mayL : List (List UInt8) → Int
  | [] => 0
  | b :: r => if mayP b ≠ 0 then mayP b else mayL r
theorem mayL_at : ∀ {rs : List RB} {i : Nat} {r : RB}, (∀ q ∈ rs.take i, mayP q.b = 0) → rs[i]? = some r → mayP r.b ≠ 0 → mayL (rs.map RB.b) = mayP r.b
  | [], i, r, _, h, _ => by simp at h
  | x :: rs, 0, r, _, h, h2 => by
    simp at h; subst h
    rw [List.map_cons, mayL, if_pos h2]
  | x :: rs, i + 1, r, h1, h, h2 => by
    rw [List.map_cons, mayL, if_neg (by simpa using h1 x (by simp))]
    exact mayL_at (i := i) (fun q hq => h1 q (by simp [hq])) (by simpa using h) h2
theorem mayL_ok : ∀ {rs : List RB}, (∀ q ∈ rs, mayP q.b = 0) → mayL (rs.map RB.b) = 0
  | [], _ => rfl
  | x :: rs, h => by
    rw [List.map_cons, mayL, if_neg (by simpa using h x (by simp))]
    exact mayL_ok fun q hq => h q (by simp [hq])
theorem take_all_snoc {rs : List RB} {i : Nat} {r : RB} {p : RB → Prop} (h : ∀ q ∈ rs.take i, p q) (hr : rs[i]? = some r) (h2 : p r) : ∀ q ∈ rs.take (i + 1), p q := by
  obtain ⟨hi, rfl⟩ := List.getElem?_eq_some_iff.1 hr
  intro q hq
  rw [List.take_succ_eq_append_getElem hi] at hq
  rcases List.mem_append.1 hq with hq | hq
  · exact h q hq
  · simp only [List.mem_singleton] at hq; subst hq; exact h2
def allB (rs : List RB) (j : Nat) : List UInt8 := frameB [] ++ ((rs.map RB.b).take j).flatMap frameB
theorem allB_snoc {rs : List RB} {j : Nat} {r : RB} (h : rs[j]? = some r) : allB rs (j + 1) = allB rs j ++ frameB r.b := by
  have g1 : (rs.map RB.b)[j]? = some r.b := by rw [List.getElem?_map, h]; rfl
  rw [allB, allB, List.take_add_one, g1, List.flatMap_append, List.append_assoc]
  simp
theorem allB_le (rs : List RB) (j : Nat) : (allB rs j).length ≤ (allB rs rs.length).length := by
  have : rs.map RB.b = (rs.map RB.b).take j ++ (rs.map RB.b).drop j := (List.take_append_drop _ _).symm
  have h2 : (rs.map RB.b).take rs.length = rs.map RB.b := List.take_of_length_le (by simp)
  rw [allB, allB, h2]
  conv => rhs; rw [this]
  rw [List.flatMap_append]
  simp only [List.length_append]
  omega
theorem allB_all (rs : List RB) : allB rs rs.length = frameB [] ++ (rs.map RB.b).flatMap frameB := by rw [allB, List.take_of_length_le (by simp)]
noncomputable def replaceP (room : Int) (pl : List PF) (bs : List (List UInt8)) : Int × List PF :=
  if mayL bs ≠ 0 then (mayL bs, pl) else if 999999999 < lastP pl + 1 then (70, pl) else
  if (swapP room pl (frameB [] ++ bs.flatMap frameB) (lastP pl + 1)).1 = 0 then (0, remsL (swapP room pl (frameB [] ++ bs.flatMap frameB) (lastP pl + 1)).2 (segsL pl))
  else ((swapP room pl (frameB [] ++ bs.flatMap frameB) (lastP pl + 1)).1, remL (swapP room pl (frameB [] ++ bs.flatMap frameB) (lastP pl + 1)).2 freshN)
theorem remsL_snoc (pl : List PF) (ns : List Int) (n : Int) : remsL pl (ns ++ [n]) = remL (remsL pl ns) (nameS n) := by
  rw [remsL, remL, remsL, List.filter_filter]
  refine List.filter_congr fun f _ => ?_
  by_cases h : f.name = nameS n <;> simp [h]
theorem remsL_at {pl : List PF} {ns : List Int} {i : Nat} {n : Int} (h : ns[i]? = some n) : remsL pl (ns.take (i + 1)) = remL (remsL pl (ns.take i)) (nameS n) := by
  obtain ⟨hi, rfl⟩ := List.getElem?_eq_some_iff.1 h
  rw [List.take_succ_eq_append_getElem hi, remsL_snoc]
theorem last_max {pl : List PF} {m : Int} (h : m ∈ segsL pl) : m ≤ lastP pl := by
  have hs : (segsL pl).Pairwise (· ≤ ·) := by unfold segsL; exact sortZ_sorted _
  have hl : lastP pl = (segsL pl).getLast (List.ne_nil_of_mem h) := by rw [lastP, List.getLast?_eq_some_getLast (List.ne_nil_of_mem h)]; rfl
  rw [hl]
  have e := List.dropLast_concat_getLast (List.ne_nil_of_mem h)
  rw [← e] at h hs
  rcases List.mem_append.1 h with h | h
  · exact (List.pairwise_append.1 hs).2.2 m h _ (by simp)
  · simp only [List.mem_singleton] at h; omega
theorem replace_bad {room : Int} {pl : List PF} {bs : List (List UInt8)} (h : mayL bs ≠ 0) : replaceP room pl bs = (mayL bs, pl) := by rw [replaceP, if_pos h]
theorem replace_many {room : Int} {pl : List PF} {bs : List (List UInt8)} (h : mayL bs = 0) (h2 : 999999999 < lastP pl + 1) : replaceP room pl bs = (70, pl) := by rw [replaceP, if_neg (by simpa using h), if_pos h2]
theorem replace_ok {room : Int} {pl : List PF} {bs : List (List UInt8)} (h : mayL bs = 0) (h2 : ¬ 999999999 < lastP pl + 1) (h3 : (swapP room pl (frameB [] ++ bs.flatMap frameB) (lastP pl + 1)).1 = 0) :
    replaceP room pl bs = (0, remsL (swapP room pl (frameB [] ++ bs.flatMap frameB) (lastP pl + 1)).2 (segsL pl)) := by rw [replaceP, if_neg (by simpa using h), if_neg h2, if_pos h3]
theorem replace_no {room : Int} {pl : List PF} {bs : List (List UInt8)} (h : mayL bs = 0) (h2 : ¬ 999999999 < lastP pl + 1) (h3 : (swapP room pl (frameB [] ++ bs.flatMap frameB) (lastP pl + 1)).1 ≠ 0) :
    replaceP room pl bs = ((swapP room pl (frameB [] ++ bs.flatMap frameB) (lastP pl + 1)).1, remL (swapP room pl (frameB [] ++ bs.flatMap frameB) (lastP pl + 1)).2 freshN) := by rw [replaceP, if_neg (by simpa using h), if_neg h2, if_neg h3]



set_option maxRecDepth 100000 in
set_option maxHeartbeats 4000000 in
theorem lreplace_ (b d : Nat) (F : Nat → Prop) (room : Int) (pl : List PF) (a : Option Addr) (rs : List RB) (c : Nat) (w : World) (hb : Blk w b [.pointer (some ⟨d, 0, none⟩)] 122) (hD : DiskAt w d F room pl) (hbd : ¬ F b) (hL : LaidOk w) (hFG : ∀ q, F q → 7 ≤ q) (hs : SlOf w a (rs.map RB.h)) (hsd : ∀ x, a = some x → ¬ F x.block) (hQ : RecsQ w rs) (hQF : ∀ r ∈ rs, r.b ≠ [] → ∀ x, r.a = some x → ¬ F x.block) (hl : rs.length ≤ 4294967295) (hsum : (allB rs rs.length).length ≤ 1073741824) :
    Calls Tryz.prog 42 #[.pointer (some ⟨b, 0, none⟩), .slice (a) ((rs.map RB.h).length) (c)] w (Ret (DStep d F room w (replaceP room pl (rs.map RB.b)).1 (replaceP room pl (rs.map RB.b)).2)) := by
  have hLs := hL.size
  have hok := hD.ok
  have hlen := hok.len
  have hsl := segsL_len pl
  have hll := last_le pl
  have hrl0 : (rs.map RB.h).length = rs.length := List.length_map ..
  have hfs : freshN.size = 7 := rfl
  have hfn := frameB_len [] (by decide)
  simp only [List.length_nil] at hfn
  refine calls_run (n := 99) Tryz.func42 rfl rfl rfl ?_
  refine Run.seq ?_
  refine Run.region ?_
  refine RL.val (x_assignI rfl) ?_
  refine RL.nil ?_
  refine Run.seq ?_
  refine Run.seq ?_
  refine Run.region ?_
  refine RL.val (x_moveP rfl) ?_
  refine RL.st rfl <| St1.call (vals := [.pointer (some ⟨b, 0, none⟩)]) en62 rfl (lmade_ _ _ _ _ _ _ hb hD hbd hL) ?_
  rintro _ w_1 ⟨rfl, K_2⟩
  replace hb := hb.ext K_2
  replace hD := hD.ext K_2
  replace hL := hL.ext K_2
  have K0 := (K_2 : Ext w _).to (S := F)
  refine RL.val (x_not (b := true) rfl) ?_
  refine RL.nil ?_
  refine Run.condF rfl ?_
  refine Run.skip ?_
  refine Run.seq ?_
  refine Run.seq ?_
  refine Run.region ?_
  refine RL.val (x_moveSl rfl) ?_
  refine RL.val (x_lenSl Tryz.underlying91 rfl) ?_
  refine RL.val (x_moveI rfl) ?_
  refine RL.nil ?_
  refine Run.block ?_
  refine Run.loop (ι := Nat) (fun i ρ' w' => Holds ρ' [(0, .pointer (some ⟨b, 0, none⟩)), (1, .slice (a) ((rs.map RB.h).length) (c)), (21, .slice (a) ((rs.map RB.h).length) (c)), (22, .int .i64 ((((rs.map RB.h).length : Nat) : Int))), (23, .int .i64 (((i : Nat) : Int)))] ∧ Keeps F w w' ∧ (Blk w' b [.pointer (some ⟨d, 0, none⟩)] 122) ∧ (LaidOk w') ∧ (DiskAt w' d F room pl) ∧ (i ≤ rs.length) ∧ (∀ q ∈ rs.take i, mayP q.b = 0)) (fun i => rs.length - i) 0 ?_ ?_
  · refine ⟨⟨rfl, rfl, rfl, rfl, rfl, trivial⟩, K0, hb, hL, hD, ?_, ?_⟩
    · omega
    · intro q h; exact absurd h (by simp)
  clear hb hD
  clear K0
  rintro i ρ_5 w_3 ⟨hH_4, K0, hb, hL, hD, hi, hm1⟩ ih1
  obtain ⟨ρ₀, rfl⟩ := hH_4.ex
  clear hH_4
  refine Run.seq ?_
  refine Run.region ?_
  refine RL.val (x_ltI rfl rfl) ?_
  refine RL.nil ?_
  refine Run.seq ?_
  refine Run.cond rfl (fun hc24 => ?_) (fun hc24 => ?_)
  · try simp only [br] at hc24
    refine Run.skip ?_
    refine Run.seq ?_
    refine Run.block ?_
    refine Run.seq ?_
    refine Run.region ?_
    obtain ⟨b_6, o_7, hh_, hh, ha_8, hc_9⟩ := hs.el (i := i) (by first | omega | (simp only [List.length_set]; omega))
    have hc_9_lt := hc_9.lt
    replace hc_9 := hc_9.keep K0 (hsd _ ha_8)
    refine RL.val (x_idxN Tryz.underlying91 ty74 rfl rfl ha_8 (by first | omega | (simp only [List.length_set]; omega))) ?_
    refine RL.val (x_ldV (v := .slice (hh_.a) (hh_.len) (hh_.cap)) (y := hh_) ty74 rfl hc_9 rfl) ?_
    refine RL.val (x_assignSl rfl) ?_
    refine RL.nil ?_
    obtain ⟨r, hr, hre, hrm⟩ := recsQ_at hh
    subst hre
    have hrl_ : r.h.len = r.b.length := rfl
    refine Run.seq ?_
    refine Run.region ?_
    refine RL.val (x_moveSl rfl) ?_
    refine RL.st rfl <| St1.call (vals := [.slice (r.a) (r.b.length) (r.c)]) en63 rfl (recMay_ _ r.b _ _) ?_
    rintro _ w_12 ⟨rfl, K_13⟩
    replace hb := hb.ext K_13
    replace hL := hL.ext K_13
    replace hD := hD.ext K_13
    replace K0 := K0.ext K_13
    refine RL.val (x_assignI rfl) ?_
    refine RL.nil ?_
    refine Run.seq ?_
    refine Run.region ?_
    refine RL.val (x_moveI rfl) ?_
    refine RL.val (x_neI rfl rfl) ?_
    refine RL.nil ?_
    refine Run.cond rfl (fun hc30 => ?_) (fun hc30 => ?_)
    · try simp only [br] at hc30
      refine Run.seq ?_
      refine Run.region ?_
      refine RL.val (x_moveI rfl) ?_
      refine RL.val (x_assignI rfl) ?_
      refine RL.nil ?_
      refine Run.ret1 (v := .int .i64 (mayP r.b)) Tryz.func42 rfl rfl ?_
      have hEq : replaceP room pl (rs.map RB.b) = (mayP r.b, pl) := (replace_bad (by rw [mayL_at hm1 hr hc30]; exact hc30)).trans (by rw [mayL_at hm1 hr hc30])
      rw [hEq]
      exact ⟨_, rfl, F, rfl, hD, movedS_foot (fun q_ h_ _ => h_), K0⟩
    · try simp only [br] at hc30
      refine Run.skip ?_
      refine Run.inBlock ?_
      refine Run.region ?_
      refine RL.val (litI (c := ((i + 1 : Nat) : Int)) (x_add rfl rfl (by omega) (by omega)) rfl) ?_
      refine RL.val (x_moveI rfl) ?_
      refine RL.nil ?_
      refine ih1 (i + 1) _ _ ?_ (by omega)
      refine ⟨⟨rfl, rfl, rfl, rfl, rfl, trivial⟩, K0, hb, hL, hD, ?_, ?_⟩
      · omega
      · exact take_all_snoc (p := fun q => mayP q.b = 0) hm1 hr hc30
  · try simp only [br] at hc24
    refine Run.exit rfl ?_
    refine Run.seq ?_
    have hmA : ∀ q ∈ rs, mayP q.b = 0 := by rw [show i = rs.length by omega, List.take_length] at hm1; exact hm1
    have hm0 := mayL_ok hmA
    refine Run.region ?_
    refine RL.val (x_moveP rfl) ?_
    refine RL.st rfl <| St1.call (vals := [.pointer (some ⟨b, 0, none⟩)]) en83 rfl (lsegs_ _ _ _ _ _ _ hb hD hbd hL) ?_
    rintro _ w_16 ⟨a_14, c_15, rfl, ho_17, hg_18, K_19⟩
    have pr_20 : ¬ own a_14 b := notNew hg_18 hb.lt
    have pr_21 : ∀ q_, own a_14 q_ → ¬ F q_ := apartNew hg_18 hD.own_lt
    have pg_22 : ∀ q_, own a_14 q_ → q_ < w.heap.size → F q_ := fun q_ h hlt => absurd (Nat.le_trans K0.size (hg_18 q_ h)) (by omega)
    have pw_23 : ∀ q_, own a_14 q_ → w.heap.size ≤ q_ := fun q_ h => Nat.le_trans K0.size (hg_18 q_ h)
    clear hg_18
    replace hb := hb.ext K_19
    replace hL := hL.ext K_19
    replace hD := hD.ext K_19
    replace K0 := K0.ext K_19
    refine RL.val (x_assignSl rfl) ?_
    refine RL.nil ?_
    refine Run.seq ?_
    refine Run.region ?_
    refine RL.val (x_moveP rfl) ?_
    refine RL.val (x_nilCheck rfl) ?_
    refine RL.val (x_fld (o' := 0) Tryz.underlying122 rfl ty120 rfl rfl rfl) ?_
    refine RL.st rfl <| St1.call (vals := [.pointer (some ⟨b, 0, none⟩)]) en64 rfl (last_ _ _ _ _ _ _ hb hD hbd hL) ?_
    rintro _ w_24 ⟨rfl, K_25⟩
    replace hb := hb.ext K_25
    replace hL := hL.ext K_25
    replace hD := hD.ext K_25
    replace ho_17 := ho_17.ext K_25
    replace K0 := K0.ext K_25
    refine RL.val (x_add rfl rfl (by omega) (by omega)) ?_
    refine RL.val (x_assignI rfl) ?_
    refine RL.nil ?_
    refine Run.seq ?_
    refine Run.seq ?_
    refine Run.region ?_
    refine RL.val (x_moveI rfl) ?_
    refine RL.val (x_gtI rfl rfl) ?_
    refine RL.nil ?_
    refine Run.cond rfl (fun hc41 => ?_) (fun hc41 => ?_)
    · try simp only [br] at hc41
      refine Run.seq ?_
      refine Run.region ?_
      refine RL.val (x_assignI rfl) ?_
      refine RL.nil ?_
      refine Run.ret1 (v := .int .i64 (70)) Tryz.func42 rfl rfl ?_
      have hEq : replaceP room pl (rs.map RB.b) = (70, pl) := replace_many hm0 hc41
      rw [hEq]
      exact ⟨_, rfl, F, rfl, hD, movedS_foot (fun q_ h_ _ => h_), K0⟩
    · try simp only [br] at hc41
      refine Run.skip ?_
      refine Run.seq ?_
      refine Run.region ?_
      refine RL.st rfl <| St1.call (vals := [.slice (none) (0) (0)]) en68 rfl (frame_ none ([] : List UInt8) 0 _ (SlOf.nil _ _) (by decide)) ?_
      rintro _ w_28 ⟨a_26, c_27, rfl, ho_29, hg_30, K_31⟩
      have pr_32 : ¬ own a_26 b := notNew hg_30 hb.lt
      have pr_33 : ∀ q_, own a_26 q_ → ¬ F q_ := apartNew hg_30 hD.own_lt
      have pr_34 : ∀ q_, own a_26 q_ → ¬ own a_14 q_ := apartNew hg_30 ho_17.own_lt
      have pg_35 : ∀ q_, own a_26 q_ → q_ < w.heap.size → F q_ := fun q_ h hlt => absurd (Nat.le_trans K0.size (hg_30 q_ h)) (by omega)
      have pw_36 : ∀ q_, own a_26 q_ → w.heap.size ≤ q_ := fun q_ h => Nat.le_trans K0.size (hg_30 q_ h)
      clear hg_30
      replace hb := hb.ext K_31
      replace hL := hL.ext K_31
      replace hD := hD.ext K_31
      replace ho_17 := ho_17.ext K_31
      replace K0 := K0.ext K_31
      refine RL.val (x_moveT rfl) ?_
      refine RL.val (x_extract rfl rfl) ?_
      refine RL.val (x_extract rfl rfl) ?_
      refine RL.val (x_assignSl rfl) ?_
      refine RL.val (x_assignI rfl) ?_
      refine RL.nil ?_
      refine Run.seq ?_
      refine Run.seq ?_
      refine Run.region ?_
      refine RL.val (x_moveSl rfl) ?_
      refine RL.val (x_lenSl Tryz.underlying91 rfl) ?_
      refine RL.val (x_moveI rfl) ?_
      refine RL.nil ?_
      refine Run.block ?_
      refine Run.loop (ι := Nat) (fun j ρ' w' => ∃ aj : Option Addr, ∃ cj : Nat, Holds ρ' [(0, .pointer (some ⟨b, 0, none⟩)), (8, .slice (a_14) ((segsL pl).length) (c_15)), (9, .int .i64 ((lastP pl) + 1)), (10, .slice (aj) ((allB rs j).length) (cj)), (11, .int .i64 (0)), (46, .slice (a) ((rs.map RB.h).length) (c)), (47, .int .i64 ((((rs.map RB.h).length : Nat) : Int))), (48, .int .i64 (((j : Nat) : Int)))] ∧ Keeps F w w' ∧ (Blk w' b [.pointer (some ⟨d, 0, none⟩)] 122) ∧ (LaidOk w') ∧ (DiskAt w' d F room pl) ∧ (OwnSl w' 3 (a_14) (c_15) (segsL pl)) ∧ (OwnSl w' 5 aj cj (allB rs j)) ∧ (¬ own aj b) ∧ (∀ q_, own aj q_ → ¬ F q_) ∧ (∀ q_, own aj q_ → ¬ own a_14 q_) ∧ (∀ q_, own aj q_ → q_ < w.heap.size → F q_) ∧ (∀ q_, own aj q_ → w.heap.size ≤ q_) ∧ (j ≤ rs.length)) (fun j => rs.length - j) 0 ?_ ?_
      · rw [show allB rs 0 = frameB [] by rw [allB]; simp]
        refine ⟨_, _, ⟨rfl, rfl, rfl, rfl, rfl, rfl, rfl, rfl, trivial⟩, K0, hb, hL, hD, ho_17, ho_29, pr_32, pr_33, pr_34, pg_35, pw_36, ?_⟩
        · omega
      clear hb hD ho_17 ho_29
      clear K0
      rintro j ρ_45 w_37 ⟨aj, cj, hH_38, K0, hb, hL, hD, ho_17, ho_39, pr_40, pr_41, pr_42, pr_43, pr_44, hj⟩ ih2
      obtain ⟨ρ₀, rfl⟩ := hH_38.ex
      clear hH_38
      refine Run.seq ?_
      refine Run.region ?_
      refine RL.val (x_ltI rfl rfl) ?_
      refine RL.nil ?_
      refine Run.seq ?_
      refine Run.cond rfl (fun hc49 => ?_) (fun hc49 => ?_)
      · try simp only [br] at hc49
        refine Run.skip ?_
        refine Run.seq ?_
        refine Run.block ?_
        refine Run.seq ?_
        refine Run.region ?_
        obtain ⟨b_46, o_47, hh_, hh, ha_48, hc_49⟩ := hs.el (i := j) (by first | omega | (simp only [List.length_set]; omega))
        have hc_49_lt := hc_49.lt
        replace hc_49 := hc_49.keep K0 (hsd _ ha_48)
        refine RL.val (x_idxN Tryz.underlying91 ty74 rfl rfl ha_48 (by first | omega | (simp only [List.length_set]; omega))) ?_
        refine RL.val (x_ldV (v := .slice (hh_.a) (hh_.len) (hh_.cap)) (y := hh_) ty74 rfl hc_49 rfl) ?_
        refine RL.val (x_assignSl rfl) ?_
        refine RL.nil ?_
        obtain ⟨r, hr, hre, hrm⟩ := recsQ_at hh
        subst hre
        have hrl_ : r.h.len = r.b.length := rfl
        have hrk := mayP_ok (hmA r hrm)
        have hfb := frameB_len r.b (by omega)
        have hal := allB_le rs (j + 1)
        rw [allB_snoc hr, List.length_append] at hal
        refine Run.seq ?_
        refine Run.region ?_
        refine RL.val (x_moveSl rfl) ?_
        refine RL.st rfl <| St1.call (vals := [.slice (r.a) (r.b.length) (r.c)]) en68 rfl (frame_ _ _ _ _ ((hQ r hrm).keep K0 (hQF r hrm hrk.1)) (by first | omega | (simp; done))) ?_
        rintro _ w_54 ⟨a_52, c_53, rfl, ho_55, hg_56, K_57⟩
        have pr_58 : ¬ own a_52 b := notNew hg_56 hb.lt
        have pr_59 : ∀ q_, own a_52 q_ → ¬ F q_ := apartNew hg_56 hD.own_lt
        have pr_60 : ∀ q_, own a_52 q_ → ¬ own a_14 q_ := apartNew hg_56 ho_17.own_lt
        have pr_61 : ∀ q_, own a_52 q_ → ¬ own aj q_ := apartNew hg_56 ho_39.own_lt
        have pg_62 : ∀ q_, own a_52 q_ → q_ < w.heap.size → F q_ := fun q_ h hlt => absurd (Nat.le_trans K0.size (hg_56 q_ h)) (by omega)
        have pw_63 : ∀ q_, own a_52 q_ → w.heap.size ≤ q_ := fun q_ h => Nat.le_trans K0.size (hg_56 q_ h)
        clear hg_56
        replace hb := hb.ext K_57
        replace hL := hL.ext K_57
        replace hD := hD.ext K_57
        replace ho_17 := ho_17.ext K_57
        replace ho_39 := ho_39.ext K_57
        replace K0 := K0.ext K_57
        refine RL.val (x_moveT rfl) ?_
        refine RL.val (x_extract rfl rfl) ?_
        refine RL.val (x_extract rfl rfl) ?_
        refine RL.val (x_assignSl rfl) ?_
        refine RL.val (x_assignI rfl) ?_
        refine RL.nil ?_
        refine Run.seq ?_
        refine Run.seq ?_
        refine Run.region ?_
        refine RL.val (x_moveI rfl) ?_
        refine RL.val (litF (x_neI rfl rfl) (by decide)) ?_
        refine RL.nil ?_
        refine Run.condF rfl ?_
        refine Run.skip ?_
        refine Run.region ?_
        refine RL.val (x_moveSl rfl) ?_
        refine RL.val (x_moveSl rfl) ?_
        refine RL.st rfl <| St1.append (xs := allB rs j) (ys := frameB r.b) Tryz.underlying74 ty5 rfl rfl rfl ho_39 ho_55.sl (by omega) (by decide) ?_
        intro a_64 c_65 w_66 ho_67 K_68 hm_69 hrm_70
        have pr_71 : ¬ own a_64 b := hm_69.not pr_40 hb.lt
        have pr_72 : ∀ q_, own a_64 q_ → ¬ F q_ := hm_69.apart pr_41 hD.own_lt
        have pr_73 : ∀ q_, own a_64 q_ → ¬ own a_14 q_ := hm_69.apart pr_42 ho_17.own_lt
        have pr_74 : ∀ q_, own a_64 q_ → ¬ own a_52 q_ := hm_69.apart (fun q_ h1 h2 => pr_61 q_ h2 h1) ho_55.own_lt
        have pg_75 : ∀ q_, own a_64 q_ → q_ < w.heap.size → F q_ := hm_69.inS pr_43 K0.size
        have pw_76 : ∀ q_, own a_64 q_ → w.heap.size ≤ q_ := hm_69.ge pr_44 K0.size
        replace hb := hb.keep K_68 pr_40
        replace hL := hL.keep K_68 (fun q_ hq_ => Nat.le_trans hLs (pr_44 q_ hq_))
        replace hD := hD.keepO K_68 (fun q_ h1 h2 => pr_41 q_ h2 h1)
        replace ho_17 := ho_17.keepO K_68 (fun q_ h1 h2 => pr_42 q_ h2 h1)
        replace ho_55 := ho_55.keepO K_68 pr_61
        replace K0 := K0.trans K_68 (fun x hlt hx => pr_43 x hx hlt)
        clear hm_69
        clear hrm_70
        refine RL.val (x_assignSl rfl) ?_
        refine RL.nil ?_
        refine Run.inBlock ?_
        refine Run.region ?_
        refine RL.val (litI (c := ((j + 1 : Nat) : Int)) (x_add rfl rfl (by omega) (by omega)) rfl) ?_
        refine RL.val (x_moveI rfl) ?_
        refine RL.nil ?_
        refine ih2 (j + 1) _ _ ?_ (by omega)
        rw [allB_snoc hr]
        refine ⟨_, _, ⟨rfl, rfl, rfl, rfl, rfl, rfl, rfl, rfl, trivial⟩, K0, hb, hL, hD, ho_17, ho_67, pr_71, pr_72, pr_73, pg_75, pw_76, ?_⟩
        · omega
      · try simp only [br] at hc49
        refine Run.exit rfl ?_
        refine Run.seq ?_
        refine Run.seq ?_
        have hje : j = rs.length := by omega
        subst hje
        refine Run.region ?_
        refine RL.val (x_moveI rfl) ?_
        refine RL.val (litT (x_eqI rfl rfl) (by decide)) ?_
        refine RL.nil ?_
        refine Run.condT rfl ?_
        refine Run.region ?_
        refine RL.val (x_moveP rfl) ?_
        refine RL.val (x_nilCheck rfl) ?_
        refine RL.val (x_fld (o' := 0) Tryz.underlying122 rfl ty120 rfl rfl rfl) ?_
        refine RL.val (x_moveSl rfl) ?_
        refine RL.val (x_moveI rfl) ?_
        refine RL.st rfl <| St1.call (vals := [.pointer (some ⟨b, 0, none⟩), .slice (aj) ((allB rs rs.length).length) (cj), .int .i64 ((lastP pl) + 1)]) en84 rfl (swap_ _ _ _ _ _ _ (allB rs rs.length) _ ((lastP pl) + 1) _ hb hD hbd hL hFG ho_39.sl (fun x_ hx_ => pr_41 _ ⟨x_, hx_, rfl⟩) (by omega)) ?_
        rintro _ w_78 ⟨F_77, rfl, hD_79, hm_80, K_81⟩
        have pr_82 : ¬ F_77 b := hm_80.not hbd hb.lt
        have pr_83 : ∀ q_, F_77 q_ → ¬ own a_14 q_ := hm_80.apart (fun q_ h1 h2 => pr_21 q_ h2 h1) ho_17.own_lt
        have pr_84 : ∀ q_, F_77 q_ → ¬ own aj q_ := hm_80.apart (fun q_ h1 h2 => pr_41 q_ h2 h1) ho_39.own_lt
        have pg_85 : ∀ q_, F_77 q_ → q_ < w.heap.size → F q_ := hm_80.inS (fun q_ h_ _ => h_) K0.size
        have pG_86 : ∀ q_, F_77 q_ → 7 ≤ q_ := fun q_ h_ => (hm_80 q_ h_).elim (hFG q_) (fun h2_ => Nat.le_trans hLs (Nat.le_trans K0.size h2_))
        replace hb := hb.keep K_81 hbd
        replace hL := hL.keep K_81 hFG
        replace ho_17 := ho_17.keepO K_81 pr_21
        replace ho_39 := ho_39.keepO K_81 pr_41
        replace K0 := K0.trans K_81 (fun x hlt hx => (fun q_ h_ _ => h_) x hx hlt)
        clear hm_80
        refine RL.val (x_assignI rfl) ?_
        refine RL.nil ?_
        refine Run.seq ?_
        refine Run.seq ?_
        by_cases hsw : (swapP room pl (allB rs rs.length) ((lastP pl) + 1)).1 = 0
        · rw [hsw]
          refine Run.region ?_
          refine RL.val (x_moveI rfl) ?_
          refine RL.val (litF (x_neI rfl rfl) (by decide)) ?_
          refine RL.nil ?_
          refine Run.condF rfl ?_
          refine Run.skip ?_
          refine Run.seq ?_
          refine Run.seq ?_
          refine Run.region ?_
          refine RL.val (x_moveSl rfl) ?_
          refine RL.val (x_lenSl Tryz.underlying130 rfl) ?_
          refine RL.val (x_moveI rfl) ?_
          refine RL.nil ?_
          refine Run.block ?_
          refine Run.loop (ι := Nat) (fun k ρ' w' => ∃ Fk : Nat → Prop, Holds ρ' [(0, .pointer (some ⟨b, 0, none⟩)), (81, .slice (a_14) ((segsL pl).length) (c_15)), (82, .int .i64 ((((segsL pl).length : Nat) : Int))), (83, .int .i64 (((k : Nat) : Int)))] ∧ Keeps F w w' ∧ (Blk w' b [.pointer (some ⟨d, 0, none⟩)] 122) ∧ (LaidOk w') ∧ (OwnSl w' 3 (a_14) (c_15) (segsL pl)) ∧ (OwnSl w' 5 (aj) (cj) (allB rs rs.length)) ∧ (DiskAt w' d Fk room (remsL (swapP room pl (allB rs rs.length) ((lastP pl) + 1)).2 ((segsL pl).take k))) ∧ (¬ Fk b) ∧ (∀ q_, Fk q_ → ¬ own a_14 q_) ∧ (∀ q_, Fk q_ → ¬ own aj q_) ∧ (∀ q_, Fk q_ → q_ < w.heap.size → F q_) ∧ (∀ q_, Fk q_ → 7 ≤ q_) ∧ (k ≤ (segsL pl).length)) (fun k => (segsL pl).length - k) 0 ?_ ?_
          · rw [show remsL (swapP room pl (allB rs rs.length) ((lastP pl) + 1)).2 ((segsL pl).take 0) = (swapP room pl (allB rs rs.length) ((lastP pl) + 1)).2 by rw [List.take_zero, remsL_nil]]
            refine ⟨_, ⟨rfl, rfl, rfl, rfl, trivial⟩, K0, hb, hL, ho_17, ho_39, hD_79, pr_82, pr_83, pr_84, pg_85, pG_86, ?_⟩
            · omega
          clear hb ho_17 ho_39 hD_79
          clear K0
          rintro k ρ_95 w_87 ⟨Fk, hH_88, K0, hb, hL, ho_17, ho_39, hO_89, pr_90, pr_91, pr_92, pr_93, pr_94, hk⟩ ih3
          obtain ⟨ρ₀, rfl⟩ := hH_88.ex
          clear hH_88
          refine Run.seq ?_
          refine Run.region ?_
          refine RL.val (x_ltI rfl rfl) ?_
          refine RL.nil ?_
          refine Run.seq ?_
          refine Run.cond rfl (fun hc84 => ?_) (fun hc84 => ?_)
          · try simp only [br] at hc84
            refine Run.skip ?_
            refine Run.seq ?_
            refine Run.block ?_
            refine Run.seq ?_
            refine Run.region ?_
            obtain ⟨b_96, o_97, m, hm, ha_98, hc_99⟩ := ho_17.sl.el (i := k) (by first | omega | (simp only [List.length_set]; omega))
            refine RL.val (x_idxN Tryz.underlying130 ty3 rfl rfl ha_98 (by first | omega | (simp only [List.length_set]; omega))) ?_
            refine RL.val (x_ldV (v := .int .i64 (m)) (y := m) ty3 rfl hc_99 rfl) ?_
            refine RL.val (x_assignI rfl) ?_
            refine RL.nil ?_
            refine Run.seq ?_
            have hnm := nameS_may m
            have hmm := List.mem_of_getElem? hm
            have hmx := last_max hmm
            have hml := segsL_mem.1 hmm
            have hhas := has_rems (pl := (swapP room pl (allB rs rs.length) ((lastP pl) + 1)).2) (ns := (segsL pl).take k) (has_swap (room := room) (b := allB rs rs.length) (n := lastP pl + 1) hml.2.2 (fresh_not m) (fun e_ => by have := name_inj hml.1 hml.2.1 (by omega) (by omega) e_; omega)) (fun j hj => by
              obtain ⟨q, hq⟩ := List.getElem?_of_mem hj
              rw [List.getElem?_take] at hq
              split at hq
              · exact (segs_ok hok).ne hq hm (by assumption)
              · cases hq)
            refine Run.drawT [] (m := 9) (by kernel_rfl) rfl ?_
            intro w_102 K_103
            replace hb := hb.ext K_103
            replace hL := hL.ext K_103
            replace ho_17 := ho_17.ext K_103
            replace ho_39 := ho_39.ext K_103
            replace hO_89 := hO_89.ext K_103
            replace K0 := K0.ext K_103
            refine ⟨fun w' => Blk w' b [.pointer (some ⟨d, 0, none⟩)] 122 ∧ True, ?_⟩
            refine RT.takeP (v := .pointer (some ⟨b, 0, none⟩)) 0 rfl (by kernel_rfl) (.inr ⟨hb, trivial⟩) (fun _ => (x_moveP rfl)) ?_
            refine RT.takeP (v := .pointer (some ⟨b, 0, none⟩)) 1 rfl (by kernel_rfl) (.inr ⟨hb, trivial⟩) (fun _ => (x_nilCheck rfl)) ?_
            refine RT.takeP (v := .pointer (some ⟨b, 0, none⟩)) 2 rfl (by kernel_rfl) (.inr ⟨hb, trivial⟩) (fun _ => (x_fld (o' := 0) Tryz.underlying122 rfl ty120 rfl rfl rfl)) ?_
            refine RT.takeP (v := .pointer (some ⟨b, 0, none⟩)) 3 rfl (by kernel_rfl) (.inr ⟨hb, trivial⟩) (fun _ => (x_fld (o' := 0) Tryz.underlying120 rfl ty62 rfl rfl rfl)) ?_
            refine RT.take (v := .pointer (some ⟨d, 0, none⟩)) 4 rfl (by kernel_rfl) ⟨hb, trivial⟩ (by rintro _ ⟨hb, -⟩; exact (x_ld (v := .pointer (some ⟨d, 0, none⟩)) ty62 rfl rfl (hb.cl.field (i := 0) rfl))) ?_
            refine RT.takeP (v := .int .i64 (m)) 5 rfl (by kernel_rfl) (.inr ⟨hb, trivial⟩) (fun _ => (x_moveI rfl)) ?_
            refine RT.st 6 rfl (by kernel_rfl) rfl <| St1.call (vals := [.int .i64 (m)]) en66 rfl (segName_ m _ hL) ?_
            rintro _ w_104 ⟨rfl, K_105⟩
            replace hb := hb.ext K_105
            replace hL := hL.ext K_105
            replace ho_17 := ho_17.ext K_105
            replace ho_39 := ho_39.ext K_105
            replace hO_89 := hO_89.ext K_105
            replace K0 := K0.ext K_105
            refine ⟨.inr ⟨hb, trivial⟩, ?_⟩
            refine RT.st 7 rfl (by kernel_rfl) rfl <| St1.call (vals := [.pointer (some ⟨d, 0, none⟩), .string (nameS m)]) en85 rfl (dcast (removeD hO_89 (nameS m) (by first | omega | decide)) (look_has (name_may hml.1 hml.2.1) hhas) rfl) ?_
            rintro _ w_107 ⟨F_106, rfl, hD_108, hm_109, K_110⟩
            have pr_111 : ¬ F_106 b := hm_109.not pr_90 hb.lt
            have pr_112 : ∀ q_, F_106 q_ → ¬ own a_14 q_ := hm_109.apart pr_91 ho_17.own_lt
            have pr_113 : ∀ q_, F_106 q_ → ¬ own aj q_ := hm_109.apart pr_92 ho_39.own_lt
            have pg_114 : ∀ q_, F_106 q_ → q_ < w.heap.size → F q_ := hm_109.inS pr_93 K0.size
            have pG_115 : ∀ q_, F_106 q_ → 7 ≤ q_ := fun q_ h_ => (hm_109 q_ h_).elim (pr_94 q_) (fun h2_ => Nat.le_trans hLs (Nat.le_trans K0.size h2_))
            replace hb := hb.keep K_110 pr_90
            replace hL := hL.keep K_110 pr_94
            replace ho_17 := ho_17.keepO K_110 (fun q_ h1 h2 => pr_91 q_ h2 h1)
            replace ho_39 := ho_39.keepO K_110 (fun q_ h1 h2 => pr_92 q_ h2 h1)
            replace K0 := K0.trans K_110 (fun x hlt hx => pr_93 x hx hlt)
            clear hm_109
            refine ⟨.inr ⟨hb, trivial⟩, ?_⟩
            refine RT.takeP (v := .int .i64 (0)) 8 rfl (by kernel_rfl) (.inr ⟨hb, trivial⟩) (fun _ => (x_assignI rfl)) ?_
            refine RT.done (by kernel_rfl) ?_
            refine Run.seq ?_
            refine Run.region ?_
            refine RL.val (x_moveI rfl) ?_
            refine RL.val (litF (x_neI rfl rfl) (by decide)) ?_
            refine RL.nil ?_
            refine Run.condF rfl ?_
            refine Run.skip ?_
            refine Run.inBlock ?_
            refine Run.region ?_
            refine RL.val (litI (c := ((k + 1 : Nat) : Int)) (x_add rfl rfl (by omega) (by omega)) rfl) ?_
            refine RL.val (x_moveI rfl) ?_
            refine RL.nil ?_
            have e := remsL_at (pl := (swapP room pl (allB rs rs.length) ((lastP pl) + 1)).2) hm
            refine ih3 (k + 1) _ _ ?_ (by omega)
            rw [e]
            refine ⟨_, ⟨rfl, rfl, rfl, rfl, trivial⟩, K0, hb, hL, ho_17, ho_39, hD_108, pr_111, pr_112, pr_113, pg_114, pG_115, ?_⟩
            · omega
          · try simp only [br] at hc84
            refine Run.exit rfl ?_
            refine Run.seq ?_
            refine Run.region ?_
            refine RL.val (x_assignI rfl) ?_
            refine RL.nil ?_
            refine Run.ret1 (v := .int .i64 (0)) Tryz.func42 rfl rfl ?_
            have hke : k = (segsL pl).length := by omega
            subst hke
            rw [List.take_length] at hO_89
            have hEq : replaceP room pl (rs.map RB.b) = (0, remsL (swapP room pl (allB rs rs.length) ((lastP pl) + 1)).2 (segsL pl)) := (replace_ok hm0 (by omega) (by rw [← allB_all]; exact hsw)).trans (by rw [allB_all])
            rw [hEq]
            exact ⟨_, rfl, Fk, rfl, hO_89, movedS_foot pr_93, K0⟩
        · refine Run.region ?_
          refine RL.val (x_moveI rfl) ?_
          refine RL.val (x_neI rfl rfl) ?_
          refine RL.nil ?_
          refine Run.cond rfl (fun hc73 => ?_) (fun hc73 => ?_)
          · try simp only [br] at hc73
            skip
            refine Run.seq ?_
            refine Run.region ?_
            refine RL.val (x_moveP rfl) ?_
            refine RL.val (x_nilCheck rfl) ?_
            refine RL.val (x_fld (o' := 0) Tryz.underlying122 rfl ty120 rfl rfl rfl) ?_
            refine RL.val (x_fld (o' := 0) Tryz.underlying120 rfl ty62 rfl rfl rfl) ?_
            refine RL.val (x_ld (v := .pointer (some ⟨d, 0, none⟩)) ty62 rfl rfl (hb.cl.field (i := 0) rfl)) ?_
            refine RL.st rfl <| St1.call (vals := [.pointer (some ⟨d, 0, none⟩), .string (freshN)]) en85 rfl (removeD hD_79 freshN (by first | omega | decide)) ?_
            rintro _ w_117 ⟨F_116, rfl, hD_118, hm_119, K_120⟩
            have pr_121 : ¬ F_116 b := hm_119.not pr_82 hb.lt
            have pr_122 : ∀ q_, F_116 q_ → ¬ own a_14 q_ := hm_119.apart pr_83 ho_17.own_lt
            have pr_123 : ∀ q_, F_116 q_ → ¬ own aj q_ := hm_119.apart pr_84 ho_39.own_lt
            have pg_124 : ∀ q_, F_116 q_ → q_ < w.heap.size → F q_ := hm_119.inS pg_85 K0.size
            have pG_125 : ∀ q_, F_116 q_ → 7 ≤ q_ := fun q_ h_ => (hm_119 q_ h_).elim (pG_86 q_) (fun h2_ => Nat.le_trans hLs (Nat.le_trans K0.size h2_))
            replace hb := hb.keep K_120 pr_82
            replace hL := hL.keep K_120 pG_86
            replace ho_17 := ho_17.keepO K_120 (fun q_ h1 h2 => pr_83 q_ h2 h1)
            replace ho_39 := ho_39.keepO K_120 (fun q_ h1 h2 => pr_84 q_ h2 h1)
            replace K0 := K0.trans K_120 (fun x hlt hx => pg_85 x hx hlt)
            clear hm_119
            refine RL.nil ?_
            refine Run.seq ?_
            refine Run.region ?_
            refine RL.val (x_moveI rfl) ?_
            refine RL.val (x_assignI rfl) ?_
            refine RL.nil ?_
            refine Run.ret1 (v := .int .i64 ((swapP room pl (allB rs rs.length) ((lastP pl) + 1)).1)) Tryz.func42 rfl rfl ?_
            have hEq : replaceP room pl (rs.map RB.b) = ((swapP room pl (allB rs rs.length) ((lastP pl) + 1)).1, remL ((swapP room pl (allB rs rs.length) ((lastP pl) + 1)).2) freshN) := (replace_no hm0 (by omega) (by rw [← allB_all]; exact hsw)).trans (by rw [allB_all])
            rw [hEq]
            exact ⟨_, rfl, F_116, rfl, hD_118, movedS_foot pg_124, K0⟩
          · try simp only [br] at hc73
            exact absurd hc73 hsw

end Go.Proofs.YtnphndfbgdkgbaaGreatDoor
