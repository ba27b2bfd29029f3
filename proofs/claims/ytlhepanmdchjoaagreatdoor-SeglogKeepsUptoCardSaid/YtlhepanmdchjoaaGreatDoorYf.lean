/-
  Layer 7: what is framed is read; usual, equal.
-/
import Derived.Test.YtlhepanmdchjoaaGreatDoorRows
import Derived.Test.YtlhepanmdchjoaaGreatDoorYe
namespace Go.Proofs.YtlhepanmdchjoaaGreatDoor
attribute [local irreducible] St1 RL RA RT RT1 Run
/-! ### what is framed is read -/
theorem pow128 (i : Nat) (h : i ≤ 8) : 128 ^ (9 - i) = 128 * 128 ^ (9 - (i + 1)) := by
  rw [show 9 - i = (9 - (i + 1)) + 1 by omega, Nat.pow_succ, Nat.mul_comm]
theorem vput_mix (n p : Nat) : n % 128 * p + n / 128 * (128 * p) = n * p := by
  rw [← Nat.mul_assoc, ← Nat.add_mul]
  congr 1
  omega
theorem vbyte (n : Nat) : (UInt8.ofNat (n % 128 + 128)).toNat = n % 128 + 128 := by rw [UInt8.toNat_ofNat']; omega
theorem vbyte2 {n : Nat} (h : n < 128) : (UInt8.ofNat n).toNat = n := by rw [UInt8.toNat_ofNat']; omega
theorem numL_vput : ∀ (n i acc : Nat) (rest : List UInt8), i ≤ 8 → n < 128 ^ (9 - i) → (i = 0 ∨ 0 < n) → numL i acc (vput n ++ rest) = .ok (acc + n * 2 ^ (7 * i), i + (vput n).length) := fun n => by
  induction n using Nat.strongRecOn with
  | _ n ih =>
    intro i acc rest hi hn h0
    by_cases c : n < 128
    · rw [vput_small c, List.singleton_append]
      have hb := vbyte2 c
      rw [numL, if_neg (by omega), if_pos (by omega), if_neg (by omega), hb, Nat.mod_eq_of_lt c]
      simp
    · have hi8 : i ≠ 8 := by
        intro e
        subst e
        exact c (by simpa using hn)
      have hb := vbyte n
      rw [vput_big c, List.cons_append, numL, if_neg (by omega), if_neg (by omega)]
      rw [pow128 i hi] at hn
      rw [ih (n / 128) (by omega) (i + 1) _ rest (by omega) (by omega) (.inr (by omega)), hb, show (n % 128 + 128) % 128 = n % 128 by omega, pow7_step, Nat.add_assoc, vput_mix]
      simp only [List.length_cons]
      congr 2
      omega
theorem numL_pre : ∀ (n i acc m : Nat), i ≤ 8 → n < 128 ^ (9 - i) → m < (vput n).length → numL i acc ((vput n).take m) = .error 2 := fun n => by
  induction n using Nat.strongRecOn with
  | _ n ih =>
    intro i acc m hi hn hm
    cases m with
    | zero => rw [List.take_zero, numL]
    | succ m =>
      by_cases c : n < 128
      · rw [vput_small c] at hm; simp at hm
      · have hi8 : i ≠ 8 := by
          intro e
          subst e
          exact c (by simpa using hn)
        have hb := vbyte n
        rw [vput_big c] at hm ⊢
        rw [List.take_succ_cons, numL, if_neg (by omega), if_neg (by omega)]
        rw [pow128 i hi] at hn
        exact ih (n / 128) (by omega) (i + 1) _ m (by omega) (by omega) (by simpa using hm)
theorem leL_le4 {s : Nat} (h : s < 4294967296) : leL (le4 s) = s := by
  simp only [le4, leL, UInt8.toNat_ofNat']
  omega
theorem le4_len (s : Nat) : (le4 s).length = 4 := rfl
section
variable {p rest : List UInt8}
theorem unf_frame (h : p.length ≤ 65536) : unfR (frameB p ++ rest) = .ok (p, rest) := by
  have e : frameB p ++ rest = vput p.length ++ (p ++ (le4 (crcS p) ++ rest)) := by simp only [frameB, List.append_assoc]
  have hN : numL 0 0 (frameB p ++ rest) = .ok (p.length, (vput p.length).length) := by
    rw [e, numL_vput _ 0 0 _ (by decide) (by simp only [Nat.sub_zero]; omega) (.inl rfl)]; simp
  have d1 : (frameB p ++ rest).drop (vput p.length).length = p ++ (le4 (crcS p) ++ rest) := by rw [e, List.drop_left]
  have d2 : (frameB p ++ rest).drop ((vput p.length).length + p.length) = le4 (crcS p) ++ rest := by rw [← List.drop_drop, d1, List.drop_left]
  have d3 : (frameB p ++ rest).drop ((vput p.length).length + p.length + 4) = rest := by rw [← List.drop_drop, d2]; exact List.drop_left' (le4_len _)
  have hl : (frameB p ++ rest).length = (vput p.length).length + (p.length + (4 + rest.length)) := by rw [e]; simp only [List.length_append, le4_len]
  have t1 : ((frameB p ++ rest).drop (vput p.length).length).take p.length = p := by rw [d1, List.take_left]
  have t2 : ((frameB p ++ rest).drop ((vput p.length).length + p.length)).take 4 = le4 (crcS p) := by rw [d2]; exact List.take_left' (le4_len _)
  have := unfR_ok hN (by omega) (by omega) (by rw [t2, t1, leL_le4 (crcS_lt p)])
  rw [this, t1, d3]
theorem frameB_ne : frameB p ≠ [] := by
  intro e
  have := congrArg List.length e
  simp only [frameB, List.length_append, le4_len, List.length_nil] at this
  omega
theorem unf_pre {m : Nat} (h : p.length ≤ 65536) (hm : m < (frameB p).length) : ∃ e, unfR ((frameB p).take m) = .error e := by
  have e : frameB p = vput p.length ++ (p ++ le4 (crcS p)) := by simp only [frameB, List.append_assoc]
  have hl : (frameB p).length = (vput p.length).length + (p.length + 4) := by rw [e]; simp only [List.length_append, le4_len]
  by_cases c : m < (vput p.length).length
  · refine ⟨2, unfR_num ?_⟩
    rw [e, List.take_append_of_le_length (by omega)]
    exact numL_pre _ 0 0 m (by decide) (by simp only [Nat.sub_zero]; omega) c
  · refine ⟨2, ?_⟩
    have hN : numL 0 0 ((frameB p).take m) = .ok (p.length, (vput p.length).length) := by
      rw [e, List.take_append, List.take_of_length_le (by omega), numL_vput _ 0 0 _ (by decide) (by simp only [Nat.sub_zero]; omega) (.inl rfl)]; simp
    exact unfR_short hN (by omega) (by rw [List.length_take]; omega)
end
theorem frames_app : ∀ (ps : List (List UInt8)) (rest : List UInt8), (∀ p ∈ ps, p.length ≤ 65536) → framesR (ps.flatMap frameB ++ rest) = (ps ++ (framesR rest).1, (framesR rest).2)
  | [], rest, _ => by simp
  | p :: ps, rest, h => by
    have hp := h p (by simp)
    rw [List.flatMap_cons, List.append_assoc, framesR_ok (by simp [frameB_ne]) (unf_frame hp), frames_app ps rest fun q hq => h q (by simp [hq])]
    rfl
theorem frames_all (ps : List (List UInt8)) (h : ∀ p ∈ ps, p.length ≤ 65536) : framesR (ps.flatMap frameB) = (ps, []) := by
  have := frames_app ps [] h
  rw [List.append_nil, framesR_nil, List.append_nil] at this
  exact this
theorem steps_all : ∀ (ps acc : List (List UInt8)), (∀ p ∈ ps, p ≠ []) → ps.foldl stepB acc = acc ++ ps
  | [], acc, _ => by simp
  | p :: ps, acc, h => by
    rw [List.foldl_cons, stepB, if_neg (h p (by simp)), steps_all ps _ fun q hq => h q (by simp [hq])]
    simp
attribute [local irreducible] crcN crcL crcS crcB numL leL unfR nameS segsL sortZ segI segO hasP restP
attribute [local irreducible] readAll mayP frameB
/-! ### records that are handed in -/
def RecsQ (w : World) (rs : List RB) : Prop := ∀ r ∈ rs, SlOf w r.a r.b
theorem RecsQ.ext {w w' : World} {rs : List RB} (h : RecsQ w rs) (k : Ext w w') : RecsQ w' rs := fun r hr => (h r hr).ext k
theorem RecsO.q {w : World} {rs : List RB} (h : RecsO w rs) : RecsQ w rs := fun r hr => (h r hr).sl
theorem recsQ_at {rs : List RB} {j : Nat} {s : SH} (hs : (rs.map RB.h)[j]? = some s) : ∃ r, rs[j]? = some r ∧ s = r.h ∧ r ∈ rs := by
  rw [List.getElem?_map, Option.map_eq_some_iff] at hs
  obtain ⟨r, hr, rfl⟩ := hs
  exact ⟨r, hr, rfl, List.mem_of_getElem? hr⟩
theorem slOf_lt {w : World} {a : Option Addr} {xs : List UInt8} (h : SlOf w a xs) (hne : xs ≠ []) : ∀ x, a = some x → x.block < w.heap.size := by
  intro x hx
  rcases h with h | ⟨b, o, ha, hc⟩
  · exact absurd h hne
  · rw [ha] at hx; cases hx; exact hc.lt
def stepU (acc : List RB) (r : RB) : List RB := if 0 < r.b.length ∧ r.b.length ≤ 5000 ∧ acc.length < 25 then acc ++ [r] else acc
def usualR (rs : List RB) : List RB := rs.foldl stepU []
theorem usual_snoc {rs : List RB} {i : Nat} {r : RB} (h : rs[i]? = some r) : usualR (rs.take (i + 1)) = stepU (usualR (rs.take i)) r := by
  obtain ⟨hi, rfl⟩ := List.getElem?_eq_some_iff.1 h
  rw [usualR, List.take_succ_eq_append_getElem hi, List.foldl_append]; rfl
theorem usual_inv : ∀ (rs acc : List RB), (∀ r ∈ acc, 0 < r.b.length ∧ r.b.length ≤ 5000) → acc.length ≤ 25 → (∀ r ∈ rs.foldl stepU acc, 0 < r.b.length ∧ r.b.length ≤ 5000) ∧ (rs.foldl stepU acc).length ≤ 25 ∧ ∀ r ∈ rs.foldl stepU acc, r ∈ acc ++ rs
  | [], acc, h, hl => ⟨h, hl, fun r hr => by simpa using hr⟩
  | x :: rs, acc, h, hl => by
    rw [List.foldl_cons]
    have key : (∀ r ∈ stepU acc x, 0 < r.b.length ∧ r.b.length ≤ 5000) ∧ (stepU acc x).length ≤ 25 ∧ ∀ r ∈ stepU acc x, r ∈ acc ++ [x] := by
      rw [stepU]
      split
      · rename_i hc
        refine ⟨fun r hr => ?_, by simp; omega, fun r hr => hr⟩
        rcases List.mem_append.1 hr with hr | hr
        · exact h r hr
        · simp only [List.mem_singleton] at hr; subst hr; exact ⟨hc.1, hc.2.1⟩
      · exact ⟨h, hl, fun r hr => by simp [hr]⟩
    obtain ⟨h1, h2, h3⟩ := usual_inv rs (stepU acc x) key.1 key.2.1
    refine ⟨h1, h2, fun r hr => ?_⟩
    rcases List.mem_append.1 (h3 r hr) with h4 | h4
    · have := key.2.2 r h4
      simp only [List.mem_append, List.mem_cons, List.not_mem_nil, or_false] at this ⊢
      rcases this with h5 | h5
      · exact .inl h5
      · exact .inr (.inl h5)
    · simp [h4]
theorem usual_ok (rs : List RB) : (∀ r ∈ usualR rs, 0 < r.b.length ∧ r.b.length ≤ 5000) ∧ (usualR rs).length ≤ 25 ∧ ∀ r ∈ usualR rs, r ∈ rs := by
  have := usual_inv rs [] (fun r h => absurd h (by simp)) (by simp)
  simpa [usualR] using this

theorem maps_snoc {rs ts : List RB} {i : Nat} {r s : RB} (h : (rs.map RB.b).take i = (ts.map RB.b).take i) (h1 : rs[i]? = some r) (h2 : ts[i]? = some s) (e : r.b = s.b) : (rs.map RB.b).take (i + 1) = (ts.map RB.b).take (i + 1) := by
  have g1 : (rs.map RB.b)[i]? = some r.b := by rw [List.getElem?_map, h1]; rfl
  have g2 : (ts.map RB.b)[i]? = some s.b := by rw [List.getElem?_map, h2]; rfl
  rw [List.take_add_one, List.take_add_one, h, g1, g2, e]
theorem maps_ne {rs ts : List RB} {i : Nat} {r s : RB} (h1 : rs[i]? = some r) (h2 : ts[i]? = some s) (e : r.b ≠ s.b) : rs.map RB.b ≠ ts.map RB.b := fun h => by
  have g1 : (rs.map RB.b)[i]? = some r.b := by rw [List.getElem?_map, h1]; rfl
  have g2 : (ts.map RB.b)[i]? = some s.b := by rw [List.getElem?_map, h2]; rfl
  rw [h, g2] at g1
  exact e (Option.some.inj g1).symm
theorem len_ne {rs ts : List RB} (h : rs.length ≠ ts.length) : rs.map RB.b ≠ ts.map RB.b := fun e => h (by have := congrArg List.length e; simpa using this)

theorem en26 : Enters Tryz.prog 26 := enters_of Tryz.func26 rfl (by kernel_rfl)
theorem en52 : Enters Tryz.prog 52 := enters_of Tryz.func52 rfl (by kernel_rfl)

set_option maxRecDepth 100000 in
set_option maxHeartbeats 4000000 in
theorem usual_ (a : Option Addr) (rs : List RB) (c : Nat) (w : World) (hs : SlOf w a (rs.map RB.h)) (hl : rs.length ≤ 4294967295) :
    Calls Tryz.prog 10 #[.slice (a) ((rs.map RB.h).length) (c)] w (Ret (fun v w' => ∃ a' c', v = .slice a' ((usualR rs).map RB.h).length c' ∧ OwnSl w' 32 a' c' ((usualR rs).map RB.h) ∧ (∀ q, own a' q → w.heap.size ≤ q) ∧ Ext w w')) := by
  have hrl0 : (rs.map RB.h).length = rs.length := List.length_map ..
  refine calls_run (n := 31) Tryz.func10 rfl rfl rfl ?_
  refine Run.seq ?_
  refine Run.region ?_
  refine RL.val (x_assignSl rfl) ?_
  refine RL.nil ?_
  refine Run.seq ?_
  refine Run.region ?_
  refine RL.val (x_assignSl rfl) ?_
  refine RL.nil ?_
  refine Run.seq ?_
  refine Run.seq ?_
  refine Run.region ?_
  refine RL.val (x_moveSl rfl) ?_
  refine RL.val (x_lenSl Tryz.underlying22 rfl) ?_
  refine RL.val (x_moveI rfl) ?_
  refine RL.nil ?_
  refine Run.block ?_
  refine Run.loop (ι := Nat) (fun i ρ' w' => ∃ ao : Option Addr, ∃ co : Nat, Holds ρ' [(3, .slice (ao) (((usualR (rs.take i)).map RB.h).length) (co)), (6, .slice (a) ((rs.map RB.h).length) (c)), (7, .int .i64 ((((rs.map RB.h).length : Nat) : Int))), (8, .int .i64 (((i : Nat) : Int)))] ∧ Ext w w' ∧ (OwnSl w' 32 ao co ((usualR (rs.take i)).map RB.h)) ∧ (∀ q_, own ao q_ → w.heap.size ≤ q_) ∧ (i ≤ rs.length)) (fun i => rs.length - i) 0 ?_ ?_
  · have ho_5 := OwnSl.nil (α := SH) w 32
    refine ⟨_, _, ⟨rfl, rfl, rfl, rfl, trivial⟩, (Keeps.refl _ w), ho_5, (fun q_ h1 => absurd h1 (own_none q_)), ?_⟩
    · omega
  rintro i ρ_6 w_1 ⟨ao, co, hH_2, K0, ho_3, pr_4, hi⟩ ih1
  obtain ⟨ρ₀, rfl⟩ := hH_2.ex
  clear hH_2
  refine Run.seq ?_
  refine Run.region ?_
  refine RL.val (x_ltI rfl rfl) ?_
  refine RL.nil ?_
  refine Run.seq ?_
  refine Run.cond rfl (fun hc9 => ?_) (fun hc9 => ?_)
  · try simp only [br] at hc9
    refine Run.skip ?_
    refine Run.seq ?_
    refine Run.block ?_
    refine Run.seq ?_
    refine Run.region ?_
    obtain ⟨b_7, o_8, hh_, hh, ha_9, hc_10⟩ := hs.el (i := i) (by first | omega | (simp only [List.length_set]; omega))
    have hc_10_lt := hc_10.lt
    replace hc_10 := hc_10.ext K0
    refine RL.val (x_idxN Tryz.underlying22 ty32 rfl rfl ha_9 (by first | omega | (simp only [List.length_set]; omega))) ?_
    refine RL.val (x_ldV (v := .slice (hh_.a) (hh_.len) (hh_.cap)) (y := hh_) ty32 rfl hc_10 rfl) ?_
    refine RL.val (x_assignSl rfl) ?_
    refine RL.nil ?_
    obtain ⟨r, hr, hre, hrm⟩ := recsQ_at hh
    subst hre
    have hrl_ : r.h.len = r.b.length := rfl
    have huk := usual_ok (rs.take i)
    have hul : ((usualR (rs.take i)).map RB.h).length = (usualR (rs.take i)).length := List.length_map ..
    refine Run.seq ?_
    refine Run.region ?_
    refine RL.val (x_moveSl rfl) ?_
    refine RL.val (x_lenSl Tryz.underlying32 rfl) ?_
    refine RL.val (x_gtI rfl rfl) ?_
    refine RL.val (x_moveB rfl) ?_
    refine RL.gval (wantedT rfl rfl rfl rfl) (fun hg => (x_moveSl rfl)) ?_
    refine RL.gval (wantedT rfl rfl rfl rfl) (fun hg => (x_lenSl Tryz.underlying32 (gvr hg))) ?_
    refine RL.gval (wantedT rfl rfl rfl rfl) (fun hg => (x_leI (gvr hg) rfl)) ?_
    refine RL.val (x_and rfl rfl rfl) ?_
    refine RL.val (x_moveB rfl) ?_
    refine RL.gval (wantedT rfl rfl rfl rfl) (fun hg => (x_moveSl rfl)) ?_
    refine RL.gval (wantedT rfl rfl rfl rfl) (fun hg => (x_lenSl Tryz.underlying22 (gvr hg))) ?_
    refine RL.gval (wantedT rfl rfl rfl rfl) (fun hg => (x_ltI (gvr hg) rfl)) ?_
    refine RL.val (x_and rfl rfl rfl) ?_
    refine RL.nil ?_
    refine Run.cond rfl (fun hc24 => ?_) (fun hc24 => ?_)
    · try simp only [br] at hc24
      refine Run.region ?_
      refine RL.val (x_moveSl rfl) ?_
      refine RL.val (x_moveSl rfl) ?_
      refine RL.st rfl <| St1.buildSlice ([⟨r.a, r.b.length, r.c⟩] : List SH) Tryz.underlying22 ty32 rfl rfl (by first | decide | (simp [Enc.size])) ?_
      intro b_13 w_14 hl_17 ho_16 K_15
      have pr_18 : ∀ q_, own (some ⟨b_13, 0, none⟩) q_ → ¬ own ao q_ := apartNew (ge_new hl_17) ho_3.own_lt
      have pg_19 : ∀ q_, own (some ⟨b_13, 0, none⟩) q_ → w.heap.size ≤ q_ := fun q_ h => Nat.le_trans K0.size ((ge_new hl_17) q_ h)
      clear hl_17
      replace ho_3 := ho_3.ext K_15
      replace K0 := K0.ext K_15
      refine RL.st rfl <| St1.append (xs := (usualR (rs.take i)).map RB.h) (ys := ([⟨r.a, r.b.length, r.c⟩] : List SH)) Tryz.underlying22 ty32 rfl rfl rfl ho_3 ho_16.sl (by rw [List.length_map]; simp only [List.length_cons, List.length_nil]; omega) (by decide) ?_
      intro a_20 c_21 w_22 ho_23 K_24 hm_25 hrm_26
      have pr_27 : ∀ q_, own a_20 q_ → ¬ own (some ⟨b_13, 0, none⟩) q_ := hm_25.apart (fun q_ h1 h2 => pr_18 q_ h2 h1) ho_16.own_lt
      have pg_28 : ∀ q_, own a_20 q_ → w.heap.size ≤ q_ := hm_25.ge pr_4 K0.size
      replace ho_16 := ho_16.keepO K_24 pr_18
      replace K0 := K0.new K_24 pr_4
      clear hm_25
      clear hrm_26
      refine RL.val (x_assignSl rfl) ?_
      refine RL.nil ?_
      have eUU : ((usualR (rs.take i)).map RB.h) ++ ([⟨r.a, r.b.length, r.c⟩] : List SH) = (usualR (rs.take (i + 1))).map RB.h := by rw [usual_snoc hr, stepU, if_pos ⟨by omega, by omega, by omega⟩, List.map_append]; rfl
      rw [eUU] at ho_23 ⊢
      refine Run.inBlock ?_
      refine Run.region ?_
      refine RL.val (litI (c := ((i + 1 : Nat) : Int)) (x_add rfl rfl (by omega) (by omega)) rfl) ?_
      refine RL.val (x_moveI rfl) ?_
      refine RL.nil ?_
      refine ih1 (i + 1) _ _ ?_ (by omega)
      refine ⟨_, _, ⟨rfl, rfl, rfl, rfl, trivial⟩, K0, ho_23, pg_28, ?_⟩
      · omega
    · try simp only [br] at hc24
      refine Run.skip ?_
      refine Run.inBlock ?_
      refine Run.region ?_
      refine RL.val (litI (c := ((i + 1 : Nat) : Int)) (x_add rfl rfl (by omega) (by omega)) rfl) ?_
      refine RL.val (x_moveI rfl) ?_
      refine RL.nil ?_
      have e := (usual_snoc hr).trans (if_neg (by omega))
      refine ih1 (i + 1) _ _ ?_ (by omega)
      rw [e]
      refine ⟨_, _, ⟨rfl, rfl, rfl, rfl, trivial⟩, K0, ho_3, pr_4, ?_⟩
      · omega
  · try simp only [br] at hc9
    refine Run.exit rfl ?_
    refine Run.seq ?_
    refine Run.region ?_
    refine RL.val (x_moveSl rfl) ?_
    refine RL.val (x_assignSl rfl) ?_
    refine RL.nil ?_
    refine Run.ret1 (v := .slice (ao) (((usualR (rs.take i)).map RB.h).length) (co)) Tryz.func10 rfl rfl ?_
    have hie : i = rs.length := by rw [List.length_map] at *; omega
    subst hie
    rw [List.take_length] at ho_3
    rw [show ((usualR (rs.take rs.length)).map RB.h).length = ((usualR rs).map RB.h).length by rw [List.take_length]]
    exact ⟨_, rfl, ao, co, rfl, ho_3, pr_4, K0⟩

set_option maxRecDepth 100000 in
set_option maxHeartbeats 4000000 in
theorem eqRecs_ (a : Option Addr) (rs : List RB) (c : Nat) (a2 : Option Addr) (ts : List RB) (c2 : Nat) (w : World) (hs : SlOf w a (rs.map RB.h)) (hs2 : SlOf w a2 (ts.map RB.h)) (hq : RecsQ w rs) (hq2 : RecsQ w ts) (hl : rs.length ≤ 4294967295) (hl2 : ts.length ≤ 4294967295) :
    Calls Tryz.prog 52 #[.slice (a) ((rs.map RB.h).length) (c), .slice (a2) ((ts.map RB.h).length) (c2), .func (.func 26) #[] #[]] w (Ret (fun v w' => v = .bool (decide (rs.map RB.b = ts.map RB.b)) ∧ Ext w w')) := by
  have hrl0 : (rs.map RB.h).length = rs.length := List.length_map ..
  have htl0 : (ts.map RB.h).length = ts.length := List.length_map ..
  refine calls_run (n := 32) Tryz.func52 rfl rfl rfl ?_
  refine Run.seq ?_
  refine Run.region ?_
  refine RL.val (x_assignB rfl) ?_
  refine RL.nil ?_
  refine Run.seq ?_
  refine Run.seq ?_
  refine Run.region ?_
  refine RL.val (x_moveSl rfl) ?_
  refine RL.val (x_lenSl Tryz.underlying22 rfl) ?_
  refine RL.val (x_moveSl rfl) ?_
  refine RL.val (x_lenSl Tryz.underlying22 rfl) ?_
  refine RL.val (x_neI rfl rfl) ?_
  refine RL.nil ?_
  refine Run.cond rfl (fun hc14 => ?_) (fun hc14 => ?_)
  · try simp only [br] at hc14
    refine Run.seq ?_
    refine Run.region ?_
    refine RL.val (x_assignB rfl) ?_
    refine RL.nil ?_
    refine Run.ret1 (v := .bool (false)) Tryz.func52 rfl rfl ?_
    exact ⟨_, rfl, by rw [decide_eq_false (len_ne (by omega))], (Keeps.refl _ w)⟩
  · try simp only [br] at hc14
    refine Run.skip ?_
    refine Run.seq ?_
    refine Run.seq ?_
    refine Run.region ?_
    refine RL.val (x_moveSl rfl) ?_
    refine RL.val (x_lenSl Tryz.underlying22 rfl) ?_
    refine RL.val (x_moveI rfl) ?_
    refine RL.nil ?_
    refine Run.block ?_
    refine Run.loop (ι := Nat) (fun i ρ' w' => Holds ρ' [(1, .slice (a2) ((ts.map RB.h).length) (c2)), (2, .func (.func 26) #[] #[]), (15, .slice (a) ((rs.map RB.h).length) (c)), (16, .int .i64 ((((rs.map RB.h).length : Nat) : Int))), (17, .int .i64 (((i : Nat) : Int)))] ∧ Ext w w' ∧ (i ≤ rs.length) ∧ ((rs.map RB.b).take i = (ts.map RB.b).take i)) (fun i => rs.length - i) 0 ?_ ?_
    · refine ⟨⟨rfl, rfl, rfl, rfl, rfl, trivial⟩, (Keeps.refl _ w), ?_, ?_⟩
      · omega
      · rfl
    rintro i ρ_3 w_1 ⟨hH_2, K0, hi, hpre⟩ ih1
    obtain ⟨ρ₀, rfl⟩ := hH_2.ex
    clear hH_2
    refine Run.seq ?_
    refine Run.region ?_
    refine RL.val (x_ltI rfl rfl) ?_
    refine RL.nil ?_
    refine Run.seq ?_
    refine Run.cond rfl (fun hc18 => ?_) (fun hc18 => ?_)
    · try simp only [br] at hc18
      refine Run.skip ?_
      refine Run.seq ?_
      refine Run.block ?_
      refine Run.seq ?_
      refine Run.region ?_
      refine RL.val (x_moveI rfl) ?_
      obtain ⟨b_4, o_5, hr_, hhr, ha_6, hc_7⟩ := hs.el (i := i) (by first | omega | (simp only [List.length_set]; omega))
      have hc_7_lt := hc_7.lt
      replace hc_7 := hc_7.ext K0
      refine RL.val (x_idxN Tryz.underlying22 ty32 rfl rfl ha_6 (by first | omega | (simp only [List.length_set]; omega))) ?_
      refine RL.val (x_ldV (v := .slice (hr_.a) (hr_.len) (hr_.cap)) (y := hr_) ty32 rfl hc_7 rfl) ?_
      refine RL.val (x_assignI rfl) ?_
      refine RL.val (x_assignSl rfl) ?_
      refine RL.nil ?_
      obtain ⟨r, hrr, hrer, hmr⟩ := recsQ_at hhr
      subst hrer
      refine Run.seq ?_
      refine Run.region ?_
      refine RL.val (x_moveSl rfl) ?_
      refine RL.val (x_moveI rfl) ?_
      obtain ⟨b_10, o_11, hs_, hhs, ha_12, hc_13⟩ := hs2.el (i := i) (by first | omega | (simp only [List.length_set]; omega))
      have hc_13_lt := hc_13.lt
      replace hc_13 := hc_13.ext K0
      refine RL.val (x_idxN Tryz.underlying22 ty32 rfl rfl ha_12 (by first | omega | (simp only [List.length_set]; omega))) ?_
      refine RL.val (x_ldV (v := .slice (hs_.a) (hs_.len) (hs_.cap)) (y := hs_) ty32 rfl hc_13 rfl) ?_
      refine RL.val (x_assignSl rfl) ?_
      refine RL.nil ?_
      obtain ⟨s, hrs, hres, hms⟩ := recsQ_at hhs
      subst hres
      refine Run.seq ?_
      refine Run.region ?_
      refine RL.val (x_moveF rfl) ?_
      refine RL.val (x_moveSl rfl) ?_
      refine RL.val (x_moveSl rfl) ?_
      refine RL.st rfl <| St1.callV (vals := [.slice (r.a) (r.b.length) (r.c), .slice (s.a) (s.b.length) (s.c)]) en26 rfl rfl (bytesEqual _ r.b _ _ s.b _ _ ((hq r hmr).ext K0) ((hq2 s hms).ext K0)) ?_
      rintro _ w_16 ⟨rfl, K_17⟩
      replace K0 := K0.ext K_17
      refine RL.val (x_not rfl) ?_
      refine RL.nil ?_
      refine Run.cond rfl (fun hc30 => ?_) (fun hc30 => ?_)
      · try simp only [br] at hc30
        refine Run.seq ?_
        refine Run.region ?_
        refine RL.val (x_assignB rfl) ?_
        refine RL.nil ?_
        refine Run.ret1 (v := .bool (false)) Tryz.func52 rfl rfl ?_
        exact ⟨_, rfl, by rw [decide_eq_false (maps_ne hrr hrs (by simpa using hc30))], K0⟩
      · try simp only [br] at hc30
        refine Run.skip ?_
        refine Run.inBlock ?_
        refine Run.region ?_
        refine RL.val (litI (c := ((i + 1 : Nat) : Int)) (x_add rfl rfl (by omega) (by omega)) rfl) ?_
        refine RL.val (x_moveI rfl) ?_
        refine RL.nil ?_
        refine ih1 (i + 1) _ _ ?_ (by omega)
        refine ⟨⟨rfl, rfl, rfl, rfl, rfl, trivial⟩, K0, ?_, ?_⟩
        · omega
        · exact maps_snoc hpre hrr hrs (by simpa using hc30)
    · try simp only [br] at hc18
      refine Run.exit rfl ?_
      refine Run.seq ?_
      refine Run.region ?_
      refine RL.val (x_assignB rfl) ?_
      refine RL.nil ?_
      refine Run.ret1 (v := .bool (true)) Tryz.func52 rfl rfl ?_
      have hie : i = rs.length := by omega
      have hie2 : i = ts.length := by omega
      have hE : rs.map RB.b = ts.map RB.b := by
        have h1 : (rs.map RB.b).take i = rs.map RB.b := List.take_of_length_le (by rw [List.length_map]; omega)
        have h2 : (ts.map RB.b).take i = ts.map RB.b := List.take_of_length_le (by rw [List.length_map]; omega)
        rw [← h1, ← h2, hpre]
      exact ⟨_, rfl, by rw [decide_eq_true hE], K0⟩

set_option maxRecDepth 100000 in
set_option maxHeartbeats 4000000 in
theorem equalR_ (a : Option Addr) (rs : List RB) (c : Nat) (a2 : Option Addr) (ts : List RB) (c2 : Nat) (w : World) (hs : SlOf w a (rs.map RB.h)) (hs2 : SlOf w a2 (ts.map RB.h)) (hq : RecsQ w rs) (hq2 : RecsQ w ts) (hl : rs.length ≤ 4294967295) (hl2 : ts.length ≤ 4294967295) :
    Calls Tryz.prog 14 #[.slice (a) ((rs.map RB.h).length) (c), .slice (a2) ((ts.map RB.h).length) (c2)] w (Ret (fun v w' => v = .bool (decide (rs.map RB.b = ts.map RB.b)) ∧ Ext w w')) := by
  refine calls_run (n := 8) Tryz.func14 rfl rfl rfl ?_
  refine Run.seq ?_
  refine Run.region ?_
  refine RL.val (x_assignB rfl) ?_
  refine RL.nil ?_
  refine Run.seq ?_
  refine Run.region ?_
  refine RL.val (x_moveSl rfl) ?_
  refine RL.val (x_moveSl rfl) ?_
  refine RL.st rfl <| St1.call (vals := [.slice (a) ((rs.map RB.h).length) (c), .slice (a2) ((ts.map RB.h).length) (c2), .func (.func 26) #[] #[]]) en52 rfl (eqRecs_ _ rs _ _ ts _ _ hs hs2 hq hq2 (by omega) (by omega)) ?_
  rintro _ w_1 ⟨rfl, K_2⟩
  have K0 := (K_2 : Ext w _)
  refine RL.val (x_assignB rfl) ?_
  refine RL.nil ?_
  refine Run.ret1 (v := .bool (decide (rs.map RB.b = ts.map RB.b))) Tryz.func14 rfl rfl ?_
  exact ⟨_, rfl, rfl, K0⟩

end Go.Proofs.YtlhepanmdchjoaaGreatDoor
