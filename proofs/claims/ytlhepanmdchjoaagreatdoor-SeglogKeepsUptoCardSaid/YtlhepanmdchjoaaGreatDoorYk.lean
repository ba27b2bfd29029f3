/-
  Layer 7: Concat of records.
-/
import Derived.Test.YtlhepanmdchjoaaGreatDoorRows
import Derived.Test.YtlhepanmdchjoaaGreatDoorYj
namespace Go.Proofs.YtlhepanmdchjoaaGreatDoor
attribute [local irreducible] St1 RL RA RT RT1 Run
attribute [local irreducible] crcN crcL crcS crcB numL leL unfR nameS segsL sortZ segI segO hasP restP
attribute [local irreducible] readAll mayP frameB
attribute [local irreducible] openP appendP replaceP syncP

/-- slices of slices, each with what it holds -/
structure PartsH (w : World) (ss : List SH) (bss : List (List SH)) : Prop where
  len : ss.length = bss.length
  all : ∀ (i : Nat) (s : SH) (bs : List SH), ss[i]? = some s → bss[i]? = some bs → s.len = bs.length ∧ SlOf w s.a bs
theorem PartsH.ext {w w' : World} {ss : List SH} {bss : List (List SH)} (h : PartsH w ss bss) (k : Ext w w') : PartsH w' ss bss :=
  ⟨h.len, fun i s bs h1 h2 => have h3 := h.all i s bs h1 h2; ⟨h3.1, h3.2.ext k⟩⟩
theorem PartsH.two {w : World} {a b : SH} {x y : List SH} (h1 : a.len = x.length) (h2 : SlOf w a.a x) (h3 : b.len = y.length) (h4 : SlOf w b.a y) : PartsH w [a, b] [x, y] :=
  ⟨rfl, fun i s bs hx hb => by
    match i with
    | 0 => simp at hx hb; subst hx; subst hb; exact ⟨h1, h2⟩
    | 1 => simp at hx hb; subst hx; subst hb; exact ⟨h3, h4⟩
    | i + 2 => simp at hx⟩
theorem flatH_len {bss : List (List SH)} {i : Nat} {bs : List SH} (h : bss[i]? = some bs) : (bss.take (i + 1)).flatten = (bss.take i).flatten ++ bs := by rw [take_snoc h]; simp
theorem flatH_le (bss : List (List SH)) (i : Nat) : (bss.take i).flatten.length ≤ bss.flatten.length := by
  have e : bss.flatten = (bss.take i).flatten ++ (bss.drop i).flatten := by rw [← List.flatten_append, List.take_append_drop]
  rw [e, List.length_append]; omega

theorem ty22 : Ty Tryz.prog 22 1 24 (.slice (none) (0) (0)) false := ty_of (by kernel_rfl) (by kernel_rfl)
theorem en57 : Enters Tryz.prog 57 := enters_of Tryz.func57 rfl (by kernel_rfl)

set_option maxRecDepth 100000 in
set_option maxHeartbeats 4000000 in
theorem grow_recs (q : Nat) (w : World) (hq : q ≤ 4294967295) :
    Calls Tryz.prog 57 #[.slice (none) (0) (0), .int .i64 (((q : Nat) : Int))] w (Ret (fun v w' => ∃ a' c', v = .slice a' 0 c' ∧ OwnSl w' 32 a' c' ([] : List SH) ∧ (∀ b, own a' b → w.heap.size ≤ b) ∧ Ext w w')) := by
  refine calls_run (n := 27) Tryz.func57 rfl rfl rfl ?_
  refine Run.seq ?_
  refine Run.region ?_
  refine RL.val (x_assignSl rfl) ?_
  refine RL.nil ?_
  refine Run.seq ?_
  refine Run.seq ?_
  refine Run.region ?_
  refine RL.val (x_moveI rfl) ?_
  refine RL.val (x_ltI rfl rfl) ?_
  refine RL.nil ?_
  refine Run.cond rfl (fun hc6 => ?_) (fun hc6 => ?_)
  · try simp only [br] at hc6
    exfalso; omega
  · try simp only [br] at hc6
    refine Run.skip ?_
    refine Run.seq ?_
    refine Run.seq ?_
    refine Run.region ?_
    refine RL.val (x_moveI rfl) ?_
    refine RL.val (x_moveSl rfl) ?_
    refine RL.val (litI (c := 0) (x_capSl Tryz.underlying22 rfl) rfl) ?_
    refine RL.val (x_moveSl rfl) ?_
    refine RL.val (litI (c := 0) (x_lenSl Tryz.underlying22 rfl) rfl) ?_
    refine RL.val (litI (c := 0) (x_sub rfl rfl (by decide) (by decide)) (by decide)) ?_
    refine RL.val (litI (c := ((q : Nat) : Int)) (x_sub rfl rfl (by omega) (by omega)) (by omega)) ?_
    refine RL.val (x_assignI rfl) ?_
    refine RL.nil ?_
    refine Run.seq ?_
    refine Run.region ?_
    refine RL.val (x_moveI rfl) ?_
    refine RL.val (x_gtI rfl rfl) ?_
    refine RL.nil ?_
    refine Run.cond rfl (fun hc16 => ?_) (fun hc16 => ?_)
    · try simp only [br] at hc16
      refine Run.region ?_
      refine RL.val (x_moveSl rfl) ?_
      refine RL.val (x_moveSl rfl) ?_
      refine RL.val (litI (c := 0) (x_capSl Tryz.underlying22 rfl) rfl) ?_
      refine RL.val (x_sliceTo (j := 0) Tryz.underlying22 ty32 rfl rfl (by omega)) ?_
      refine RL.val (x_moveI rfl) ?_
      refine RL.st rfl <| St1.appendZeros (q := q) SH Tryz.underlying22 Tryz.underlying3 ty32 rfl rfl rfl (by omega) (by omega) (by decide) ?_
      intro b_1 c_2 w_3 hl_4 hcp_5 ho_6 K_7
      have pg_8 : ∀ q_, own (some ⟨b_1, 0, none⟩) q_ → w.heap.size ≤ q_ := fun q_ h => Nat.le_trans (Nat.le_refl _) ((ge_new hl_4) q_ h)
      clear hl_4
      have K0 := (K_7 : Ext w _)
      refine RL.val (x_moveSl rfl) ?_
      refine RL.val (litI (c := 0) (x_lenSl Tryz.underlying22 rfl) rfl) ?_
      refine RL.val (x_sliceTo (j := 0) Tryz.underlying22 ty32 rfl rfl (by omega)) ?_
      refine RL.val (x_assignSl rfl) ?_
      refine RL.nil ?_
      refine Run.seq ?_
      refine Run.region ?_
      refine RL.val (x_moveSl rfl) ?_
      refine RL.val (x_assignSl rfl) ?_
      refine RL.nil ?_
      refine Run.ret1 (v := .slice (some ⟨b_1, 0, none⟩) (0) (c_2)) Tryz.func57 rfl rfl ?_
      exact ⟨_, rfl, some ⟨b_1, 0, none⟩, c_2, rfl, ho_6, pg_8, K0⟩
    · try simp only [br] at hc16
      refine Run.skip ?_
      refine Run.seq ?_
      refine Run.region ?_
      refine RL.val (x_moveSl rfl) ?_
      refine RL.val (x_assignSl rfl) ?_
      refine RL.nil ?_
      refine Run.ret1 (v := .slice (none) (0) (0)) Tryz.func57 rfl rfl ?_
      exact ⟨_, rfl, none, 0, rfl, OwnSl.nil _ _, fun b h => absurd h (own_none b), Keeps.refl _ w⟩

set_option maxRecDepth 100000 in
set_option maxHeartbeats 4000000 in
theorem concat_recs (a : Option Addr) (ss : List SH) (c : Nat) (bss : List (List SH)) (w : World) (hs : SlOf w a ss) (hp : PartsH w ss bss) (hl : bss.flatten.length ≤ 4294967295) (hl2 : bss.length ≤ 4294967295) :
    Calls Tryz.prog 23 #[.slice (a) (ss.length) (c)] w (Ret (fun v w' => ∃ a' c', v = .slice a' bss.flatten.length c' ∧ OwnSl w' 32 a' c' bss.flatten ∧ (∀ b, own a' b → w.heap.size ≤ b) ∧ Ext w w')) := by
  have hlen := hp.len
  refine calls_run (n := 36) Tryz.func23 rfl rfl rfl ?_
  refine Run.seq ?_
  refine Run.region ?_
  refine RL.val (x_assignSl rfl) ?_
  refine RL.nil ?_
  refine Run.seq ?_
  refine Run.region ?_
  refine RL.val (x_assignI rfl) ?_
  refine RL.nil ?_
  refine Run.seq ?_
  refine Run.seq ?_
  refine Run.region ?_
  refine RL.val (x_moveSl rfl) ?_
  refine RL.val (x_lenSl Tryz.underlying99 rfl) ?_
  refine RL.val (x_moveI rfl) ?_
  refine RL.nil ?_
  refine Run.block ?_
  refine Run.loop (ι := Nat) (fun i ρ' w' => Holds ρ' [(0, .slice (a) (ss.length) (c)), (3, .int .i64 (((((bss.take i).flatten).length : Nat) : Int))), (9, .slice (a) (ss.length) (c)), (10, .int .i64 (((ss.length : Nat) : Int))), (11, .int .i64 (((i : Nat) : Int)))] ∧ Ext w w' ∧ (i ≤ bss.length)) (fun i => bss.length - i) 0 ?_ ?_
  · refine ⟨⟨rfl, rfl, rfl, rfl, rfl, trivial⟩, (Keeps.refl _ w), ?_⟩
    · omega
  rintro i ρ_3 w_1 ⟨hH_2, K0, hi⟩ ih1
  obtain ⟨ρ₀, rfl⟩ := hH_2.ex
  clear hH_2
  refine Run.seq ?_
  refine Run.region ?_
  refine RL.val (x_ltI rfl rfl) ?_
  refine RL.nil ?_
  refine Run.seq ?_
  refine Run.cond rfl (fun hc12 => ?_) (fun hc12 => ?_)
  · try simp only [br] at hc12
    refine Run.skip ?_
    refine Run.seq ?_
    refine Run.block ?_
    refine Run.seq ?_
    refine Run.region ?_
    obtain ⟨b_4, o_5, s, hx, ha_6, hc_7⟩ := hs.el (i := i) (by first | omega | (simp only [List.length_set]; omega))
    have hc_7_lt := hc_7.lt
    replace hc_7 := hc_7.ext K0
    refine RL.val (x_idxN Tryz.underlying99 ty22 rfl rfl ha_6 (by first | omega | (simp only [List.length_set]; omega))) ?_
    refine RL.val (x_ldV (v := .slice (s.a) (s.len) (s.cap)) (y := s) ty22 rfl hc_7 rfl) ?_
    refine RL.val (x_assignSl rfl) ?_
    refine RL.nil ?_
    obtain ⟨bs, hbs⟩ : ∃ bs, bss[i]? = some bs := ⟨_, List.getElem?_eq_getElem (by omega)⟩
    obtain ⟨hsl1, hsl2⟩ := (hp.ext K0).all i s bs hx hbs
    have hfl := flatH_len (i := i) hbs
    have hfl2 : (bss.take (i + 1)).flatten.length = (bss.take i).flatten.length + bs.length := by rw [hfl, List.length_append]
    have hft := flatH_le bss (i + 1)
    refine Run.seq ?_
    refine Run.region ?_
    refine RL.val (x_moveI rfl) ?_
    refine RL.val (x_moveSl rfl) ?_
    refine RL.val (x_lenSl Tryz.underlying22 rfl) ?_
    refine RL.val (litI (c := (((bss.take (i + 1)).flatten).length : Int)) (litI (c := (((((bss.take i).flatten).length) + s.len : Nat) : Int)) (x_add rfl rfl (by omega) (by omega)) rfl) (by omega)) ?_
    refine RL.val (x_assignI rfl) ?_
    refine RL.nil ?_
    refine Run.seq ?_
    refine Run.region ?_
    refine RL.val (x_moveI rfl) ?_
    refine RL.val (x_ltI rfl rfl) ?_
    refine RL.nil ?_
    refine Run.cond rfl (fun hc20 => ?_) (fun hc20 => ?_)
    · try simp only [br] at hc20
      exfalso; omega
    · try simp only [br] at hc20
      refine Run.skip ?_
      refine Run.inBlock ?_
      refine Run.region ?_
      refine RL.val (litI (c := ((i + 1 : Nat) : Int)) (x_add rfl rfl (by omega) (by omega)) rfl) ?_
      refine RL.val (x_moveI rfl) ?_
      refine RL.nil ?_
      refine ih1 (i + 1) _ _ ?_ (by omega)
      refine ⟨⟨rfl, rfl, rfl, rfl, rfl, trivial⟩, K0, ?_⟩
      · omega
  · try simp only [br] at hc12
    refine Run.exit rfl ?_
    refine Run.seq ?_
    have hfull : (bss.take i).flatten = bss.flatten := by rw [List.take_of_length_le (by omega)]
    rw [hfull]
    refine Run.region ?_
    refine RL.val (x_moveI rfl) ?_
    refine RL.st rfl <| St1.call (vals := [.slice (none) (0) (0), .int .i64 (((bss.flatten.length : Nat) : Int))]) en57 rfl (grow_recs bss.flatten.length _ (by omega)) ?_
    rintro _ w_12 ⟨a_10, c_11, rfl, ho_13, hg_14, K_15⟩
    have pg_16 : ∀ q_, own a_10 q_ → w.heap.size ≤ q_ := fun q_ h => Nat.le_trans K0.size (hg_14 q_ h)
    clear hg_14
    replace K0 := K0.ext K_15
    refine RL.val (x_assignSl rfl) ?_
    refine RL.nil ?_
    refine Run.seq ?_
    refine Run.seq ?_
    refine Run.region ?_
    refine RL.val (x_moveSl rfl) ?_
    refine RL.val (x_lenSl Tryz.underlying99 rfl) ?_
    refine RL.val (x_moveI rfl) ?_
    refine RL.nil ?_
    refine Run.block ?_
    refine Run.loop (ι := Nat) (fun i ρ' w' => ∃ ao : Option Addr, ∃ co : Nat, Holds ρ' [(6, .slice (ao) (((bss.take i).flatten).length) (co)), (25, .slice (a) (ss.length) (c)), (26, .int .i64 (((ss.length : Nat) : Int))), (27, .int .i64 (((i : Nat) : Int)))] ∧ Ext w w' ∧ (OwnSl w' 32 ao co ((bss.take i).flatten)) ∧ (∀ q_, own ao q_ → w.heap.size ≤ q_) ∧ (i ≤ bss.length)) (fun i => bss.length - i) 0 ?_ ?_
    · refine ⟨_, _, ⟨rfl, rfl, rfl, rfl, trivial⟩, K0, ho_13, pg_16, ?_⟩
      · omega
    clear ho_13
    clear K0
    rintro i ρ_21 w_17 ⟨ao, co, hH_18, K0, ho_19, pr_20, hi⟩ ih2
    obtain ⟨ρ₀, rfl⟩ := hH_18.ex
    clear hH_18
    refine Run.seq ?_
    refine Run.region ?_
    refine RL.val (x_ltI rfl rfl) ?_
    refine RL.nil ?_
    refine Run.seq ?_
    refine Run.cond rfl (fun hc28 => ?_) (fun hc28 => ?_)
    · try simp only [br] at hc28
      refine Run.skip ?_
      refine Run.seq ?_
      refine Run.block ?_
      refine Run.seq ?_
      refine Run.region ?_
      obtain ⟨b_22, o_23, s, hx, ha_24, hc_25⟩ := hs.el (i := i) (by first | omega | (simp only [List.length_set]; omega))
      have hc_25_lt := hc_25.lt
      replace hc_25 := hc_25.ext K0
      refine RL.val (x_idxN Tryz.underlying99 ty22 rfl rfl ha_24 (by first | omega | (simp only [List.length_set]; omega))) ?_
      refine RL.val (x_ldV (v := .slice (s.a) (s.len) (s.cap)) (y := s) ty22 rfl hc_25 rfl) ?_
      refine RL.val (x_assignSl rfl) ?_
      refine RL.nil ?_
      obtain ⟨bs, hbs⟩ : ∃ bs, bss[i]? = some bs := ⟨_, List.getElem?_eq_getElem (by omega)⟩
      obtain ⟨hsl1, hsl2⟩ := (hp.ext K0).all i s bs hx hbs
      have hfl := flatH_len (i := i) hbs
      have hfl2 : (bss.take (i + 1)).flatten.length = (bss.take i).flatten.length + bs.length := by rw [hfl, List.length_append]
      have hft := flatH_le bss (i + 1)
      rw [hsl1]
      refine Run.region ?_
      refine RL.val (x_moveSl rfl) ?_
      refine RL.val (x_moveSl rfl) ?_
      refine RL.st rfl <| St1.append (xs := (bss.take i).flatten) (ys := bs) Tryz.underlying22 ty32 rfl rfl rfl ho_19 hsl2 (by have := flatH_le bss i; rw [hfl, List.length_append] at hft; omega) (by decide) ?_
      intro a_28 c_29 w_30 ho_31 K_32 hm_33 hrm_34
      have pg_35 : ∀ q_, own a_28 q_ → w.heap.size ≤ q_ := hm_33.ge pr_20 K0.size
      replace K0 := K0.new K_32 pr_20
      clear hm_33
      clear hrm_34
      refine RL.val (x_assignSl rfl) ?_
      refine RL.nil ?_
      refine Run.inBlock ?_
      refine Run.region ?_
      refine RL.val (litI (c := ((i + 1 : Nat) : Int)) (x_add rfl rfl (by omega) (by omega)) rfl) ?_
      refine RL.val (x_moveI rfl) ?_
      refine RL.nil ?_
      refine ih2 (i + 1) _ _ ?_ (by omega)
      rw [hfl]
      refine ⟨_, _, ⟨rfl, rfl, rfl, rfl, trivial⟩, K0, ho_31, pg_35, ?_⟩
      · omega
    · try simp only [br] at hc28
      refine Run.exit rfl ?_
      refine Run.seq ?_
      refine Run.region ?_
      refine RL.val (x_moveSl rfl) ?_
      refine RL.val (x_assignSl rfl) ?_
      refine RL.nil ?_
      refine Run.ret1 (v := .slice (ao) (((bss.take i).flatten).length) (co)) Tryz.func23 rfl rfl ?_
      have hil : i = bss.length := by omega
      subst hil
      rw [List.take_length] at ho_19 ⊢
      exact ⟨_, rfl, ao, co, rfl, ho_19, pr_20, K0⟩

theorem concat2R (a : Option Addr) (ss : List SH) (c : Nat) (xs ys : List RB) (w : World) (hs : SlOf w a ss) (hp : PartsH w ss [xs.map RB.h, ys.map RB.h]) (hl : xs.length + ys.length ≤ 4294967295) :
    Calls Tryz.prog 23 #[.slice a ss.length c] w (Ret fun v w' => ∃ a' c', v = .slice a' ((xs ++ ys).map RB.h).length c' ∧ OwnSl w' 32 a' c' ((xs ++ ys).map RB.h) ∧ (∀ b, own a' b → w.heap.size ≤ b) ∧ Ext w w') := by
  have e : [xs.map RB.h, ys.map RB.h].flatten = (xs ++ ys).map RB.h := by simp
  have := concat_recs a ss c _ w hs hp (by rw [e, List.length_map, List.length_append]; exact hl) (by simp)
  rw [e] at this
  exact this

end Go.Proofs.YtlhepanmdchjoaaGreatDoor
