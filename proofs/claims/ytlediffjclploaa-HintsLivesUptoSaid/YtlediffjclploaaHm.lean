/-
  The reference's box: Due.
-/
import Derived.Test.YtlediffjclploaaRows
import Derived.Test.YtlediffjclploaaHl
namespace Go.Proofs.Ytlediffjclploaa
attribute [local irreducible] St1 RL RA RT RT1 Run

theorem count_way {L : List RKept} {now n : Int} (h : RangeR L now) : L.countP (fun r : RKept => decide (r.hint.owner = n) && (r.sent && decide (now - r.since < 1000))) = (L.map cv).countP (onWay now n) := by
  rw [List.countP_map]
  refine List.countP_congr fun r hr => ?_
  simp only [Function.comp, onWay]
  rw [waits_cv (h r hr).2]
  rfl
theorem RangeR.mono {L : List RKept} {a b : Int} (h : RangeR L a) (hab : a ≤ b) : RangeR L b := fun r hr => ⟨(h r hr).1, fun e => ⟨((h r hr).2 e).1, Int.le_trans ((h r hr).2 e).2 hab⟩⟩
theorem mix_cv {L Lr : List RKept} {now n : Int} {i : Nat} {x : RKept} (hm : Lr.map cv = mixL now n (L.map cv) i) (hi : i < L.length) (hx : Lr[i]? = some x) : (L.map cv)[i]? = some (cv x) := by
  rw [← mixL_get now n (L.map cv) i (by rw [List.length_map]; exact hi), ← hm]
  exact get_cv hx
theorem of_yes {now : Int} {x : RKept} (h : x.sent = false ∨ 1000 ≤ now - x.since) (hr : x.sent = true → 0 ≤ x.since ∧ x.since ≤ now) : waitsB now (cv x) = false := by
  rw [waits_cv hr]
  rcases h with h | h
  · simp [h]
  · have : ¬ now - x.since < 1000 := by omega
    simp [this]
theorem of_no {now n c : Int} {x : RKept} (h : ¬ x.hint.owner = n ∨ (x.sent = true ∧ now - x.since < 1000)) (hr : x.sent = true → 0 ≤ x.since ∧ x.since ≤ now) : (¬ (cv x).h.owner = n ∨ waitsB now (cv x) = true) ∨ 4 ≤ c := by
  rcases h with h | ⟨h1, h2⟩
  · exact .inl (.inl h)
  · refine .inl (.inr ?_)
    rw [waits_cv hr, h1]
    simpa using h2
theorem mix_set2 {L Lr : List RKept} {now n : Int} {i : Nat} {x x' : RKept} (hm : Lr.map cv = mixL now n (L.map cv) i) (hx : (L.map cv)[i]? = some (cv x)) (hs : (sndI now n (L.map cv) (i + 1)).L = (sndI now n (L.map cv) i).L ++ [cv x']) (y : RKept) :
    ((Lr.set i y).set i x').map cv = mixL now n (L.map cv) (i + 1) := by
  rw [List.set_set, set_cv, hm, mixL_set hx hs]
theorem range_set2 {L : List RKept} {now : Int} {i : Nat} {y r : RKept} (h : RangeR L now) (hr : hE r.hint = 0 ∧ (r.sent = true → 0 ≤ r.since ∧ r.since ≤ now)) : RangeR ((L.set i y).set i r) now := by
  rw [List.set_set]; exact range_set h hr

theorem first_step {F A x : Bool} {a n : Int} (h : x = (A || (a == n))) : (F && !x) = ((F && !A) && (a != n)) := by
  subst h
  cases F <;> cases A <;> simp [bne]
theorem first_no {n : Int} {A : Bool} (h : ((decide (0 ≤ n) && decide (n < 8)) && !A) = false) : (n < 0 ∨ 8 ≤ n) ∨ (0 ≤ n ∧ n < 8 ∧ A = true) := by
  by_cases h1 : n < 0 ∨ 8 ≤ n
  · exact .inl h1
  · refine .inr ⟨by omega, by omega, ?_⟩
    have e : (decide (0 ≤ n) && decide (n < 8)) = true := by simp; omega
    rw [e] at h
    cases A with
    | true => rfl
    | false => cases h
theorem first_yes {n : Int} {A : Bool} (h : ((decide (0 ≤ n) && decide (n < 8)) && !A) = true) : (0 ≤ n ∧ n < 8) ∧ A = false := by
  simp only [Bool.and_eq_true, decide_eq_true_eq, Bool.not_eq_true'] at h
  exact h

theorem en49 : Enters Try.prog 49 := enters_of Try.func49 rfl (by kernel_rfl)

set_option maxHeartbeats 4000000 in
theorem ofR (b : Nat) (al : Option Addr) (cl : Nat) (L : List RKept) (now : Int) (n : Int) (w : World) (hB : RBoxAt w b al cl L now) (hll : L.length ≤ 4294967295) (hn1 : now ≤ 9223372036854775807) :
    Calls Try.prog 49 #[.pointer (some ⟨b, 0, none⟩), .int .i64 (n)] w (Ret (fun v w' => ∃ a' c' L', v = .slice a' (sndI now n (L.map cv) L.length).T.length c' ∧ OwnSl w' 42 a' c' (sndI now n (L.map cv) L.length).T ∧ (∀ x, own a' x → w.heap.size ≤ x) ∧ RBoxAt w' b al cl L' now ∧ L'.map cv = (sndI now n (L.map cv) L.length).L ∧ L'.length = L.length ∧ Keeps (boxS b al) w w')) := by
  obtain ⟨hb, ho, hap, hrg, hn0⟩ := hB
  refine calls_run (n := 124) Try.func49 rfl rfl rfl ?_
  refine Run.seq ?_
  refine Run.region ?_
  refine RL.val (x_assignSl rfl) ?_
  refine RL.nil ?_
  refine Run.seq ?_
  refine Run.region ?_
  refine RL.val (x_assignI rfl) ?_
  refine RL.nil ?_
  refine Run.seq ?_
  refine Run.seq ?_
  refine Run.region ?_
  refine RL.val (x_assignI rfl) ?_
  refine RL.nil ?_
  refine Run.block ?_
  refine Run.loop (ι := Nat) (fun i ρ' w' => Holds ρ' [(0, .pointer (some ⟨b, 0, none⟩)), (1, .int .i64 (n)), (5, .int .i64 ((((L.take i).countP (fun r : RKept => decide (r.hint.owner = n) && (r.sent && decide (now - r.since < 1000))) : Nat) : Int))), (6, .int .i64 (((i : Nat) : Int)))] ∧ Keeps (boxS b al) w w' ∧ (Blk w' b [.slice (al) (L.length) (cl), .int .i64 (now)] 61) ∧ (OwnSl w' 83 (al) (cl) (L)) ∧ (i ≤ L.length)) (fun i => L.length - i) 0 ?_ ?_
  · rw [List.take_zero, List.countP_nil]
    refine ⟨⟨rfl, rfl, rfl, rfl, trivial⟩, (Keeps.refl _ w), hb, ho, ?_⟩
    · omega
  clear hb ho
  rintro i ρ_3 w_1 ⟨hH_2, K0, hb, ho, hi⟩ ih1
  obtain ⟨ρ₀, rfl⟩ := hH_2.ex
  clear hH_2
  refine Run.seq ?_
  refine Run.seq ?_
  refine Run.region ?_
  refine RL.val (x_moveI rfl) ?_
  refine RL.val (x_moveP rfl) ?_
  refine RL.val (x_nilCheck rfl) ?_
  refine RL.val (x_fld (o' := 0) Try.underlying61 rfl ty59 rfl rfl rfl) ?_
  refine RL.val (x_ld (v := .slice (al) (L.length) (cl)) ty59 rfl rfl (hb.cl.field (i := 0) rfl)) ?_
  refine RL.val (x_lenSl Try.underlying59 rfl) ?_
  refine RL.val (x_ltI rfl rfl) ?_
  refine RL.nil ?_
  refine Run.cond rfl (fun hc16 => ?_) (fun hc16 => ?_)
  · try simp only [br] at hc16
    refine Run.skip ?_
    refine Run.seq ?_
    refine Run.block ?_
    refine Run.seq ?_
    obtain ⟨b_6, o_7, x, hx, ha_8, hc_9⟩ := ho.sl.el (i := i) (by first | omega | (simp only [List.length_set]; omega))
    obtain ⟨b_12, o_13, x_16, hx_17, ha_14, hc_15⟩ := ho.sl.el (i := i) (by first | omega | (simp only [List.length_set]; omega))
    obtain rfl : x = x_16 := Option.some.inj (hx.symm.trans hx_17)
    obtain ⟨b_18, o_19, x_22, hx_23, ha_20, hc_21⟩ := ho.sl.el (i := i) (by first | omega | (simp only [List.length_set]; omega))
    obtain rfl : x = x_22 := Option.some.inj (hx.symm.trans hx_23)
    refine Run.draw' (m := 37) (by kernel_rfl) rfl ?_
    intro w_4 K_5
    replace hb := hb.ext K_5
    replace ho := ho.ext K_5
    replace hc_9 := hc_9.ext K_5
    replace hc_15 := hc_15.ext K_5
    replace hc_21 := hc_21.ext K_5
    replace K0 := K0.ext K_5
    refine RA.take (v := .pointer (some ⟨b, 0, none⟩)) 0 rfl (by kernel_rfl) rfl (by rintro _ rfl; exact (x_moveP rfl)) ?_
    refine RA.take (v := .pointer (some ⟨b, 0, none⟩)) 1 rfl (by kernel_rfl) rfl (by rintro _ rfl; exact (x_nilCheck rfl)) ?_
    refine RA.take (v := .pointer (some ⟨b, 0, none⟩)) 2 rfl (by kernel_rfl) rfl (by rintro _ rfl; exact (x_fld (o' := 0) Try.underlying61 rfl ty59 rfl rfl rfl)) ?_
    refine RA.take (v := .slice (al) (L.length) (cl)) 3 rfl (by kernel_rfl) rfl (by rintro _ rfl; exact (x_ld (v := .slice (al) (L.length) (cl)) ty59 rfl rfl (hb.cl.field (i := 0) rfl))) ?_
    refine RA.take (v := .int .i64 (((i : Nat) : Int))) 4 rfl (by kernel_rfl) rfl (by rintro _ rfl; exact (x_moveI rfl)) ?_
    refine RA.take (v := .pointer (some ⟨b_6, o_7 + i * 4, none⟩)) 5 rfl (by kernel_rfl) rfl (by rintro _ rfl; exact (x_idxN Try.underlying59 ty83 rfl rfl ha_8 (by first | omega | (simp only [List.length_set]; omega)))) ?_
    refine RA.take (v := .pointer (some ⟨b_6, o_7 + i * 4 + 0, none⟩)) 6 rfl (by kernel_rfl) rfl (by rintro _ rfl; exact (x_fld (o' := o_7 + i * 4 + 0) Try.underlying83 rfl ty42 rfl rfl rfl)) ?_
    refine RA.take (v := .pointer (some ⟨b_6, o_7 + i * 4 + 0 + 0, none⟩)) 7 rfl (by kernel_rfl) rfl (by rintro _ rfl; exact (x_fld (o' := o_7 + i * 4 + 0 + 0) Try.underlying42 rfl ty3 rfl rfl rfl)) ?_
    refine RA.take (v := .int .i64 (((x).hint).owner)) 8 rfl (by kernel_rfl) rfl (by rintro _ rfl; exact (x_ld ty3 rfl rfl (hc_9.field (i := 0) rfl))) ?_
    refine RA.take (v := .int .i64 (n)) 9 rfl (by kernel_rfl) rfl (by rintro _ rfl; exact (x_moveI rfl)) ?_
    refine RA.take (v := .bool ((((x).hint).owner) == n)) 10 rfl (by kernel_rfl) rfl (by rintro _ rfl; exact (x_eqI rfl rfl)) ?_
    refine RA.take (v := .bool ((((x).hint).owner) == n)) 11 rfl (by kernel_rfl) rfl (by rintro _ rfl; exact (x_moveB rfl)) ?_
    refine RA.gtake (v := .pointer (some ⟨b, 0, none⟩)) 12 rfl (by kernel_rfl) rfl (wantedT rfl rfl rfl rfl) (fun hg => by rintro _ rfl; exact (x_moveP rfl)) ?_
    refine RA.gtake (v := .pointer (some ⟨b, 0, none⟩)) 13 rfl (by kernel_rfl) rfl (wantedT rfl rfl rfl rfl) (fun hg => by rintro _ rfl; exact (x_nilCheck (gvr hg))) ?_
    refine RA.gtake (v := .pointer (some ⟨b, 0, none⟩)) 14 rfl (by kernel_rfl) rfl (wantedT rfl rfl rfl rfl) (fun hg => by rintro _ rfl; exact (x_fld (o' := 0) Try.underlying61 rfl ty59 rfl (gvr hg) rfl)) ?_
    refine RA.gtake (v := .slice (al) (L.length) (cl)) 15 rfl (by kernel_rfl) rfl (wantedT rfl rfl rfl rfl) (fun hg => by rintro _ rfl; exact (x_ld (v := .slice (al) (L.length) (cl)) ty59 (gvr hg) rfl (hb.cl.field (i := 0) rfl))) ?_
    refine RA.gtake (v := .int .i64 (((i : Nat) : Int))) 16 rfl (by kernel_rfl) rfl (wantedT rfl rfl rfl rfl) (fun hg => by rintro _ rfl; exact (x_moveI rfl)) ?_
    refine RA.gtake (v := .pointer (some ⟨b_12, o_13 + i * 4, none⟩)) 17 rfl (by kernel_rfl) rfl (wantedT rfl rfl rfl rfl) (fun hg => by rintro _ rfl; exact (x_idxN Try.underlying59 ty83 (gvr hg) (gvr hg) ha_14 (by first | omega | (simp only [List.length_set]; omega)))) ?_
    refine RA.gtake (v := .pointer (some ⟨b_12, o_13 + i * 4 + 2, none⟩)) 18 rfl (by kernel_rfl) rfl (wantedT rfl rfl rfl rfl) (fun hg => by rintro _ rfl; exact (x_fld (o' := o_13 + i * 4 + 2) Try.underlying83 rfl ty4 rfl (gvr hg) rfl)) ?_
    refine RA.gtake (v := .bool ((x).sent)) 19 rfl (by kernel_rfl) rfl (wantedT rfl rfl rfl rfl) (fun hg => by rintro _ rfl; exact (x_ld ty4 (gvr hg) rfl (hc_15.field (i := 2) rfl))) ?_
    refine RA.take (v := .bool (((((x).hint).owner) == n) && ((x).sent))) 20 rfl (by kernel_rfl) rfl (by rintro _ rfl; exact (x_and rfl rfl rfl)) ?_
    refine RA.take (v := .bool (((((x).hint).owner) == n) && ((x).sent))) 21 rfl (by kernel_rfl) rfl (by rintro _ rfl; exact (x_moveB rfl)) ?_
    refine RA.gtake (v := .pointer (some ⟨b, 0, none⟩)) 22 rfl (by kernel_rfl) rfl (wantedT rfl rfl rfl rfl) (fun hg => by rintro _ rfl; exact (x_moveP rfl)) ?_
    refine RA.gtake (v := .pointer (some ⟨b, 0, none⟩)) 23 rfl (by kernel_rfl) rfl (wantedT rfl rfl rfl rfl) (fun hg => by rintro _ rfl; exact (x_nilCheck (gvr hg))) ?_
    refine RA.gtake (v := .pointer (some ⟨b, 1, none⟩)) 24 rfl (by kernel_rfl) rfl (wantedT rfl rfl rfl rfl) (fun hg => by rintro _ rfl; exact (x_fld (o' := 1) Try.underlying61 rfl ty3 rfl (gvr hg) rfl)) ?_
    refine RA.gtake (v := .int .i64 (now)) 25 rfl (by kernel_rfl) rfl (wantedT rfl rfl rfl rfl) (fun hg => by rintro _ rfl; exact (x_ld (v := .int .i64 (now)) ty3 (gvr hg) rfl (hb.cl.field (i := 1) rfl))) ?_
    refine RA.gtake (v := .pointer (some ⟨b, 0, none⟩)) 26 rfl (by kernel_rfl) rfl (wantedT rfl rfl rfl rfl) (fun hg => by rintro _ rfl; exact (x_moveP rfl)) ?_
    refine RA.gtake (v := .pointer (some ⟨b, 0, none⟩)) 27 rfl (by kernel_rfl) rfl (wantedT rfl rfl rfl rfl) (fun hg => by rintro _ rfl; exact (x_nilCheck (gvr hg))) ?_
    refine RA.gtake (v := .pointer (some ⟨b, 0, none⟩)) 28 rfl (by kernel_rfl) rfl (wantedT rfl rfl rfl rfl) (fun hg => by rintro _ rfl; exact (x_fld (o' := 0) Try.underlying61 rfl ty59 rfl (gvr hg) rfl)) ?_
    refine RA.gtake (v := .slice (al) (L.length) (cl)) 29 rfl (by kernel_rfl) rfl (wantedT rfl rfl rfl rfl) (fun hg => by rintro _ rfl; exact (x_ld (v := .slice (al) (L.length) (cl)) ty59 (gvr hg) rfl (hb.cl.field (i := 0) rfl))) ?_
    refine RA.gtake (v := .int .i64 (((i : Nat) : Int))) 30 rfl (by kernel_rfl) rfl (wantedT rfl rfl rfl rfl) (fun hg => by rintro _ rfl; exact (x_moveI rfl)) ?_
    refine RA.gtake (v := .pointer (some ⟨b_18, o_19 + i * 4, none⟩)) 31 rfl (by kernel_rfl) rfl (wantedT rfl rfl rfl rfl) (fun hg => by rintro _ rfl; exact (x_idxN Try.underlying59 ty83 (gvr hg) (gvr hg) ha_20 (by first | omega | (simp only [List.length_set]; omega)))) ?_
    refine RA.gtake (v := .pointer (some ⟨b_18, o_19 + i * 4 + 3, none⟩)) 32 rfl (by kernel_rfl) rfl (wantedT rfl rfl rfl rfl) (fun hg => by rintro _ rfl; exact (x_fld (o' := o_19 + i * 4 + 3) Try.underlying83 rfl ty3 rfl (gvr hg) rfl)) ?_
    refine RA.gtake (v := .int .i64 ((x).since)) 33 rfl (by kernel_rfl) rfl (wantedT rfl rfl rfl rfl) (fun hg => by rintro _ rfl; exact (x_ld ty3 (gvr hg) rfl (hc_21.field (i := 3) rfl))) ?_
    refine RA.gtake (v := .int .i64 (now - ((x).since))) 34 rfl (by kernel_rfl) rfl (wantedT rfl rfl rfl rfl) (fun hg => by rintro _ rfl; exact (x_sub (gvr hg) (gvr hg) (by have hq := (hrg x (mem_of_at hx)).2 (andR hg); omega) (by have hq := (hrg x (mem_of_at hx)).2 (andR hg); omega))) ?_
    refine RA.gtake (v := .bool (decide ((now - ((x).since)) < 1000))) 35 rfl (by kernel_rfl) rfl (wantedT rfl rfl rfl rfl) (fun hg => by rintro _ rfl; exact (x_ltI (gvr hg) rfl)) ?_
    refine RA.take (v := .bool ((((((x).hint).owner) == n) && ((x).sent)) && (decide ((now - ((x).since)) < 1000)))) 36 rfl (by kernel_rfl) rfl (by rintro _ rfl; exact (x_and rfl rfl rfl)) ?_
    refine RA.done (by kernel_rfl) ?_
    refine Run.cond rfl (fun hc55 => ?_) (fun hc55 => ?_)
    · try simp only [br] at hc55
      have hcp := List.countP_le_length (p := (fun r : RKept => decide (r.hint.owner = n) && (r.sent && decide (now - r.since < 1000)))) (l := L.take i)
      have hlt := List.length_take_le i L
      refine Run.region ?_
      refine RL.val (x_moveI rfl) ?_
      refine RL.val (litI (c := ((((L.take i).countP (fun r : RKept => decide (r.hint.owner = n) && (r.sent && decide (now - r.since < 1000)))) + 1 : Nat) : Int)) (x_add rfl rfl (by omega) (by omega)) rfl) ?_
      refine RL.val (x_assignI rfl) ?_
      refine RL.nil ?_
      refine Run.inBlock ?_
      refine Run.region ?_
      refine RL.val (x_moveI rfl) ?_
      refine RL.val (litI (c := ((i + 1 : Nat) : Int)) (x_add rfl rfl (by omega) (by omega)) rfl) ?_
      refine RL.val (x_assignI rfl) ?_
      refine RL.nil ?_
      have e := countP_takeR (fun r : RKept => decide (r.hint.owner = n) && (r.sent && decide (now - r.since < 1000))) hx
      rw [if_pos (by obtain ⟨⟨h1, h2⟩, h3⟩ := hc55; simp [h1, h2, h3])] at e
      refine ih1 (i + 1) _ _ ?_ (by omega)
      rw [e]
      refine ⟨⟨rfl, rfl, rfl, rfl, trivial⟩, K0, hb, ho, ?_⟩
      · omega
    · try simp only [br] at hc55
      refine Run.skip ?_
      refine Run.inBlock ?_
      refine Run.region ?_
      refine RL.val (x_moveI rfl) ?_
      refine RL.val (litI (c := ((i + 1 : Nat) : Int)) (x_add rfl rfl (by omega) (by omega)) rfl) ?_
      refine RL.val (x_assignI rfl) ?_
      refine RL.nil ?_
      have e := countP_takeR (fun r : RKept => decide (r.hint.owner = n) && (r.sent && decide (now - r.since < 1000))) hx
      rw [if_neg (by rcases hc55 with (h | h) | h <;> simp [h]; all_goals omega)] at e
      refine ih1 (i + 1) _ _ ?_ (by omega)
      rw [e]
      refine ⟨⟨rfl, rfl, rfl, rfl, trivial⟩, K0, hb, ho, ?_⟩
      · omega
  · try simp only [br] at hc16
    refine Run.exit rfl ?_
    refine Run.seq ?_
    have hil : i = L.length := by omega
    subst hil
    rw [List.take_length, count_way hrg]
    show Run _ _ _ _ _ _ _
    refine Run.region ?_
    refine RL.val (x_assignSl rfl) ?_
    refine RL.nil ?_
    refine Run.seq ?_
    refine Run.seq ?_
    refine Run.region ?_
    refine RL.val (x_assignI rfl) ?_
    refine RL.nil ?_
    refine Run.block ?_
    refine Run.loop (ι := Nat) (fun i ρ' w' => ∃ Lr : List RKept, ∃ at2 : Option Addr, ∃ ct2 : Nat, Holds ρ' [(0, .pointer (some ⟨b, 0, none⟩)), (1, .int .i64 (n)), (5, .int .i64 ((((sndI now n (L.map cv) i).c : Nat) : Int))), (7, .slice (at2) (((sndI now n (L.map cv) i).T).length) (ct2)), (8, .int .i64 (((i : Nat) : Int)))] ∧ Keeps (boxS b al) w w' ∧ (Blk w' b [.slice (al) ((Lr).length) (cl), .int .i64 (now)] 61) ∧ (OwnSl w' 83 al cl (Lr)) ∧ (OwnSl w' 42 at2 ct2 ((sndI now n (L.map cv) i).T)) ∧ (¬ own al b) ∧ (∀ q_, own al q_ → ¬ own at2 q_) ∧ (∀ q_, own al q_ → q_ < w.heap.size → (boxS b al) q_) ∧ (¬ own at2 b) ∧ (∀ q_, own at2 q_ → q_ < w.heap.size → (boxS b al) q_) ∧ (i ≤ L.length) ∧ (Lr.map cv = mixL now n (L.map cv) i) ∧ (RangeR Lr now) ∧ (Lr.length = L.length)) (fun i => L.length - i) 0 ?_ ?_
    · have ho_33 := OwnSl.nil (α := Hint) w_1 42
      refine ⟨_, _, _, ⟨rfl, rfl, rfl, rfl, rfl, trivial⟩, K0, hb, ho, ho_33, hap, (fun q_ h1 h2 => (fun q_ h1 _ => own_none q_ h1) q_ h2 h1), (fun x h _ => Or.inr h), (own_none _), (fun q_ h1 _ => absurd h1 (own_none q_)), ?_, ?_, ?_, ?_⟩
      · omega
      · rw [mixL_zero]
      · exact hrg
      · rfl
    clear hb ho
    clear K0
    rintro i ρ_34 w_24 ⟨Lr, at2, ct2, hH_25, K0, hb, ho_26, ho_27, pr_28, pr_29, pr_30, pr_31, pr_32, hi, hm, hrr, hlr⟩ ih2
    obtain ⟨ρ₀, rfl⟩ := hH_25.ex
    clear hH_25
    refine Run.seq ?_
    refine Run.seq ?_
    have hsc := sndI_c now n (L.map cv) i (by rw [List.length_map]; omega)
    have hst := sndI_T now n (L.map cv) i (by rw [List.length_map]; omega)
    rw [List.length_map] at hsc
    refine Run.region ?_
    refine RL.val (x_moveI rfl) ?_
    refine RL.val (x_moveP rfl) ?_
    refine RL.val (x_nilCheck rfl) ?_
    refine RL.val (x_fld (o' := 0) Try.underlying61 rfl ty59 rfl rfl rfl) ?_
    refine RL.val (x_ld (v := .slice (al) ((Lr).length) (cl)) ty59 rfl rfl (hb.cl.field (i := 0) rfl)) ?_
    refine RL.val (x_lenSl Try.underlying59 rfl) ?_
    refine RL.val (x_ltI rfl rfl) ?_
    refine RL.val (x_moveB rfl) ?_
    refine RL.gval (wantedT rfl rfl rfl rfl) (fun hg => (x_moveI rfl)) ?_
    refine RL.gval (wantedT rfl rfl rfl rfl) (fun hg => (x_ltI (gvr hg) rfl)) ?_
    refine RL.val (x_and rfl rfl rfl) ?_
    refine RL.nil ?_
    refine Run.cond rfl (fun hc68 => ?_) (fun hc68 => ?_)
    · try simp only [br] at hc68
      refine Run.skip ?_
      refine Run.seq ?_
      refine Run.block ?_
      refine Run.seq ?_
      refine Run.region ?_
      refine RL.val (x_moveP rfl) ?_
      refine RL.val (x_nilCheck rfl) ?_
      refine RL.val (x_fld (o' := 0) Try.underlying61 rfl ty59 rfl rfl rfl) ?_
      refine RL.val (x_ld (v := .slice (al) ((Lr).length) (cl)) ty59 rfl rfl (hb.cl.field (i := 0) rfl)) ?_
      refine RL.val (x_moveI rfl) ?_
      obtain ⟨b_35, o_36, x, hx, ha_37, hc_38⟩ := ho_26.sl.el (i := i) (by first | omega | (simp only [List.length_set]; omega))
      refine RL.val (x_idxN Try.underlying59 ty83 rfl rfl ha_37 (by first | omega | (simp only [List.length_set]; omega))) ?_
      refine RL.val (x_ldV (v := .agg #[.int .i64 (((x).hint).owner), .string (((x).hint).key), .bool ((x).sent), .int .i64 ((x).since)]) (y := x) ty83 rfl hc_38 rfl) ?_
      refine RL.st rfl <| St1.alloc ty83 ?_
      intro b_41 w_42 hl_45 hb_44 K_43
      replace hb_44 : Blk w_42 b_41 [.int .i64 (0), .string (⟨#[]⟩), .bool (false), .int .i64 (0)] 83 := hb_44
      have ne_46 : b < b_41 := Nat.lt_of_lt_of_le hb.lt hl_45
      have ne_47 : b_35 < b_41 := Nat.lt_of_lt_of_le hc_38.lt hl_45
      have pr_48 : ¬ own al b_41 := fun h => absurd (ho_26.own_lt _ h) (by omega)
      have pr_49 : ¬ own at2 b_41 := fun h => absurd (ho_27.own_lt _ h) (by omega)
      have : w.heap.size ≤ b_41 := Nat.le_trans K0.size hl_45
      clear hl_45
      replace hb := hb.ext K_43
      replace ho_26 := ho_26.ext K_43
      replace ho_27 := ho_27.ext K_43
      replace hc_38 := hc_38.ext K_43
      replace K0 := K0.ext K_43
      refine RL.st rfl <| St1.store (v := .agg #[.int .i64 (((x).hint).owner), .string (((x).hint).key), .bool ((x).sent), .int .i64 ((x).since)]) ty83 rfl rfl rfl (by simp [Value.cells, Value.oneCell']) hb_44 (by simp) ?_
      intro w_50 hb_44_ K_51
      have hb_44' : Blk w_50 b_41 [.int .i64 (((x).hint).owner), .string (((x).hint).key), .bool ((x).sent), .int .i64 ((x).since)] 83 := hb_44_
      clear hb_44_
      replace hb := hb.keep K_51 (by simp only [one]; omega)
      replace ho_26 := ho_26.keepO K_51 (fun q_ hq_ eq_ => pr_48 (by simp only [one] at eq_; rw [← eq_]; exact hq_))
      replace ho_27 := ho_27.keepO K_51 (fun q_ hq_ eq_ => pr_49 (by simp only [one] at eq_; rw [← eq_]; exact hq_))
      replace hc_38 := hc_38.keep K_51 (fun e => pr_48 (by simp only [one] at e; rw [← e]; exact (own_sub _) _ ha_37))
      replace K0 := K0.trans K_51 (fun x hlt hx => absurd hlt (by simp only [one] at hx; omega))
      replace hb_44 := hb_44'
      clear hb_44'
      refine RL.nil ?_
      refine Run.seq ?_
      refine Run.draw' (m := 20) (by kernel_rfl) rfl ?_
      intro w_52 K_53
      replace hb := hb.ext K_53
      replace ho_26 := ho_26.ext K_53
      replace ho_27 := ho_27.ext K_53
      replace hb_44 := hb_44.ext K_53
      replace K0 := K0.ext K_53
      refine RA.take (v := .pointer (some ⟨b_41, 0, none⟩)) 0 rfl (by kernel_rfl) rfl (by rintro _ rfl; exact (x_fld (o' := 0) Try.underlying83 rfl ty42 rfl rfl rfl)) ?_
      refine RA.take (v := .pointer (some ⟨b_41, 0, none⟩)) 1 rfl (by kernel_rfl) rfl (by rintro _ rfl; exact (x_fld (o' := 0) Try.underlying42 rfl ty3 rfl rfl rfl)) ?_
      refine RA.take (v := .int .i64 (((x).hint).owner)) 2 rfl (by kernel_rfl) rfl (by rintro _ rfl; exact (x_ld (v := .int .i64 (((x).hint).owner)) ty3 rfl rfl (hb_44.cl.field (i := 0) rfl))) ?_
      refine RA.take (v := .int .i64 (n)) 3 rfl (by kernel_rfl) rfl (by rintro _ rfl; exact (x_moveI rfl)) ?_
      refine RA.take (v := .bool ((((x).hint).owner) == n)) 4 rfl (by kernel_rfl) rfl (by rintro _ rfl; exact (x_eqI rfl rfl)) ?_
      refine RA.take (v := .bool ((((x).hint).owner) == n)) 5 rfl (by kernel_rfl) rfl (by rintro _ rfl; exact (x_moveB rfl)) ?_
      refine RA.gtake (v := .pointer (some ⟨b_41, 2, none⟩)) 6 rfl (by kernel_rfl) rfl (wantedT rfl rfl rfl rfl) (fun hg => by rintro _ rfl; exact (x_fld (o' := 2) Try.underlying83 rfl ty4 rfl rfl rfl)) ?_
      refine RA.gtake (v := .bool ((x).sent)) 7 rfl (by kernel_rfl) rfl (wantedT rfl rfl rfl rfl) (fun hg => by rintro _ rfl; exact (x_ld (v := .bool ((x).sent)) ty4 (gvr hg) rfl (hb_44.cl.field (i := 2) rfl))) ?_
      refine RA.gtake (v := .bool (!((x).sent))) 8 rfl (by kernel_rfl) rfl (wantedT rfl rfl rfl rfl) (fun hg => by rintro _ rfl; exact (x_not (gvr hg))) ?_
      refine RA.gtake (v := .bool (!((x).sent))) 9 rfl (by kernel_rfl) rfl (wantedT rfl rfl rfl rfl) (fun hg => by rintro _ rfl; exact (x_moveB (gvr hg))) ?_
      refine RA.gtake (v := .pointer (some ⟨b, 0, none⟩)) 10 rfl (by kernel_rfl) rfl (wantedGF rfl rfl rfl rfl) (fun hg => by rintro _ rfl; exact (x_moveP rfl)) ?_
      refine RA.gtake (v := .pointer (some ⟨b, 0, none⟩)) 11 rfl (by kernel_rfl) rfl (wantedGF rfl rfl rfl rfl) (fun hg => by rintro _ rfl; exact (x_nilCheck (gvr hg))) ?_
      refine RA.gtake (v := .pointer (some ⟨b, 1, none⟩)) 12 rfl (by kernel_rfl) rfl (wantedGF rfl rfl rfl rfl) (fun hg => by rintro _ rfl; exact (x_fld (o' := 1) Try.underlying61 rfl ty3 rfl (gvr hg) rfl)) ?_
      refine RA.gtake (v := .int .i64 (now)) 13 rfl (by kernel_rfl) rfl (wantedGF rfl rfl rfl rfl) (fun hg => by rintro _ rfl; exact (x_ld (v := .int .i64 (now)) ty3 (gvr hg) rfl (hb.cl.field (i := 1) rfl))) ?_
      refine RA.gtake (v := .pointer (some ⟨b_41, 3, none⟩)) 14 rfl (by kernel_rfl) rfl (wantedGF rfl rfl rfl rfl) (fun hg => by rintro _ rfl; exact (x_fld (o' := 3) Try.underlying83 rfl ty3 rfl rfl rfl)) ?_
      refine RA.gtake (v := .int .i64 ((x).since)) 15 rfl (by kernel_rfl) rfl (wantedGF rfl rfl rfl rfl) (fun hg => by rintro _ rfl; exact (x_ld (v := .int .i64 ((x).since)) ty3 (gvr hg) rfl (hb_44.cl.field (i := 3) rfl))) ?_
      refine RA.gtake (v := .int .i64 (now - ((x).since))) 16 rfl (by kernel_rfl) rfl (wantedGF rfl rfl rfl rfl) (fun hg => by rintro _ rfl; exact (x_sub (gvr hg) (gvr hg) (by have hq := (hrr x (mem_of_at hx)).2 (by simpa using andR hg); omega) (by have hq := (hrr x (mem_of_at hx)).2 (by simpa using andR hg); omega))) ?_
      refine RA.gtake (v := .bool (decide (1000 ≤ (now - ((x).since))))) 17 rfl (by kernel_rfl) rfl (wantedGF rfl rfl rfl rfl) (fun hg => by rintro _ rfl; exact (x_geI (gvr hg) rfl)) ?_
      refine RA.gtake (v := .bool ((!((x).sent)) || (decide (1000 ≤ (now - ((x).since)))))) 18 rfl (by kernel_rfl) rfl (wantedT rfl rfl rfl rfl) (fun hg => by rintro _ rfl; exact (x_orG hg rfl rfl rfl)) ?_
      refine RA.take (v := .bool (((((x).hint).owner) == n) && ((!((x).sent)) || (decide (1000 ≤ (now - ((x).since))))))) 19 rfl (by kernel_rfl) rfl (by rintro _ rfl; exact (x_and rfl rfl rfl)) ?_
      refine RA.done (by kernel_rfl) ?_
      refine Run.cond rfl (fun hc97 => ?_) (fun hc97 => ?_)
      · try simp only [br] at hc97
        refine Run.seq ?_
        refine Run.region ?_
        refine RL.val (x_moveP rfl) ?_
        refine RL.val (x_nilCheck rfl) ?_
        refine RL.val (x_fld (o' := 0) Try.underlying61 rfl ty59 rfl rfl rfl) ?_
        refine RL.val (x_ld (v := .slice (al) ((Lr).length) (cl)) ty59 rfl rfl (hb.cl.field (i := 0) rfl)) ?_
        refine RL.val (x_moveI rfl) ?_
        obtain ⟨b_54, o_55, x_58, hx_59, ha_56, hc_57⟩ := ho_26.sl.el (i := i) (by first | omega | (simp only [List.length_set]; omega))
        obtain rfl : x = x_58 := Option.some.inj (hx.symm.trans hx_59)
        refine RL.val (x_idxN Try.underlying59 ty83 rfl rfl ha_56 (by first | omega | (simp only [List.length_set]; omega))) ?_
        refine RL.val (x_fld (o' := o_55 + i * 4 + 2) Try.underlying83 rfl ty4 rfl rfl rfl) ?_
        refine RL.st rfl <| St1.storeEl (v := .bool (true)) (off := 2) (i := i) ({ x with sent := true }) ty4 rfl rfl rfl (by simp [Value.cells, Value.oneCell']) ho_26 ha_56 hx_59 rfl (by decide) rfl ?_
        intro w_60 ho_62 K_61
        clear hc_57
        replace hb := hb.keep K_61 pr_28
        replace ho_27 := ho_27.keepO K_61 (fun q_ h1 h2 => pr_29 q_ h2 h1)
        replace hb_44 := hb_44.keep K_61 pr_48
        replace K0 := K0.trans K_61 (fun x hlt hx => pr_30 x hx hlt)
        replace ho_26 := ho_62
        clear ho_62
        rw [show (Lr).length = (Lr.set i ({ x with sent := true })).length from (List.length_set ..).symm] at hb
        refine RL.nil ?_
        refine Run.seq ?_
        obtain ⟨b_65, o_66, x_69, hx_70, ha_67, hc_68⟩ := ho_26.sl.el (i := i) (by first | omega | (simp only [List.length_set]; omega))
        obtain rfl : { x with sent := true } = x_69 := Option.some.inj ((get_set_self hx_59).symm.trans hx_70)
        refine Run.drawT [11] (m := 12) (by kernel_rfl) rfl ?_
        intro w_63 K_64
        replace hb := hb.ext K_64
        replace ho_26 := ho_26.ext K_64
        replace ho_27 := ho_27.ext K_64
        replace hb_44 := hb_44.ext K_64
        replace hc_68 := hc_68.ext K_64
        replace K0 := K0.ext K_64
        refine ⟨fun w' => Blk w' b [.slice (al) ((Lr.set i ({ x with sent := true })).length) (cl), .int .i64 (now)] 61 ∧ Cl w' b_65 (o_66 + i * 4) (cellsOf { x with sent := true }) ∧ True, ?_⟩
        refine RT.takeP (v := .pointer (some ⟨b, 0, none⟩)) 0 rfl (by kernel_rfl) (.inr ⟨hb, hc_68, trivial⟩) (fun _ => (x_moveP rfl)) ?_
        refine RT.takeP (v := .pointer (some ⟨b, 0, none⟩)) 1 rfl (by kernel_rfl) (.inr ⟨hb, hc_68, trivial⟩) (fun _ => (x_nilCheck rfl)) ?_
        refine RT.takeP (v := .pointer (some ⟨b, 0, none⟩)) 2 rfl (by kernel_rfl) (.inr ⟨hb, hc_68, trivial⟩) (fun _ => (x_fld (o' := 0) Try.underlying61 rfl ty59 rfl rfl rfl)) ?_
        refine RT.take (v := .slice (al) ((Lr.set i ({ x with sent := true })).length) (cl)) 3 rfl (by kernel_rfl) ⟨hb, hc_68, trivial⟩ (by rintro _ ⟨hb, hc_68, -⟩; exact (x_ld (v := .slice (al) ((Lr.set i ({ x with sent := true })).length) (cl)) ty59 rfl rfl (hb.cl.field (i := 0) rfl))) ?_
        refine RT.takeP (v := .int .i64 (((i : Nat) : Int))) 4 rfl (by kernel_rfl) (.inr ⟨hb, hc_68, trivial⟩) (fun _ => (x_moveI rfl)) ?_
        refine RT.takeP (v := .pointer (some ⟨b, 0, none⟩)) 5 rfl (by kernel_rfl) (.inr ⟨hb, hc_68, trivial⟩) (fun _ => (x_moveP rfl)) ?_
        refine RT.takeP (v := .pointer (some ⟨b, 0, none⟩)) 6 rfl (by kernel_rfl) (.inr ⟨hb, hc_68, trivial⟩) (fun _ => (x_nilCheck rfl)) ?_
        refine RT.takeP (v := .pointer (some ⟨b, 1, none⟩)) 7 rfl (by kernel_rfl) (.inr ⟨hb, hc_68, trivial⟩) (fun _ => (x_fld (o' := 1) Try.underlying61 rfl ty3 rfl rfl rfl)) ?_
        refine RT.take (v := .int .i64 (now)) 8 rfl (by kernel_rfl) ⟨hb, hc_68, trivial⟩ (by rintro _ ⟨hb, hc_68, -⟩; exact (x_ld (v := .int .i64 (now)) ty3 rfl rfl (hb.cl.field (i := 1) rfl))) ?_
        refine RT.takeP (v := .pointer (some ⟨b_65, o_66 + i * 4, none⟩)) 9 rfl (by kernel_rfl) (.inr ⟨hb, hc_68, trivial⟩) (fun _ => (x_idxN Try.underlying59 ty83 rfl rfl ha_67 (by first | omega | (simp only [List.length_set]; omega)))) ?_
        refine RT.takeP (v := .pointer (some ⟨b_65, o_66 + i * 4 + 3, none⟩)) 10 rfl (by kernel_rfl) (.inr ⟨hb, hc_68, trivial⟩) (fun _ => (x_fld (o' := o_66 + i * 4 + 3) Try.underlying83 rfl ty3 rfl rfl rfl)) ?_
        refine RT.st 11 rfl (by kernel_rfl) rfl <| St1.storeEl (v := .int .i64 (now)) (off := 3) (i := i) ({ { x with sent := true } with since := now }) ty3 rfl rfl rfl (by simp [Value.cells, Value.oneCell']) ho_26 ha_67 hx_70 rfl (by decide) rfl ?_
        intro w_71 ho_73 K_72
        clear hc_68
        replace hb := hb.keep K_72 pr_28
        replace ho_27 := ho_27.keepO K_72 (fun q_ h1 h2 => pr_29 q_ h2 h1)
        replace hb_44 := hb_44.keep K_72 pr_48
        replace K0 := K0.trans K_72 (fun x hlt hx => pr_30 x hx hlt)
        replace ho_26 := ho_73
        clear ho_73
        rw [show (Lr.set i ({ x with sent := true })).length = ((Lr.set i ({ x with sent := true })).set i ({ { x with sent := true } with since := now })).length from (List.length_set ..).symm] at hb
        refine ⟨.inl (by kernel_rfl), ?_⟩
        refine RT.done (by kernel_rfl) ?_
        refine Run.seq ?_
        refine Run.region ?_
        refine RL.val (x_moveSl rfl) ?_
        refine RL.val (x_fld (o' := 0) Try.underlying83 rfl ty42 rfl rfl rfl) ?_
        refine RL.val (x_lds (cs := #[.int .i64 (((x).hint).owner), .string (((x).hint).key)]) ty42 rfl rfl (hb_44.cl.drop 0 2)) ?_
        refine RL.st rfl <| St1.buildSlice ([(x).hint] : List Hint) Try.underlying35 ty42 rfl rfl (by first | decide | (simp [Enc.size])) ?_
        intro b_74 w_75 hl_78 ho_77 K_76
        have pr_79 : ¬ own (some ⟨b_74, 0, none⟩) b := notNew (ge_new hl_78) hb.lt
        have pr_80 : ∀ q_, own (some ⟨b_74, 0, none⟩) q_ → ¬ own al q_ := apartNew (ge_new hl_78) ho_26.own_lt
        have pr_81 : ∀ q_, own (some ⟨b_74, 0, none⟩) q_ → ¬ own at2 q_ := apartNew (ge_new hl_78) ho_27.own_lt
        have pr_82 : ¬ own (some ⟨b_74, 0, none⟩) b_41 := notNew (ge_new hl_78) hb_44.lt
        have pg_83 : ∀ q_, own (some ⟨b_74, 0, none⟩) q_ → q_ < w.heap.size → (boxS b al) q_ := fun q_ h hlt => absurd (Nat.le_trans K0.size ((ge_new hl_78) q_ h)) (by omega)
        clear hl_78
        replace hb := hb.ext K_76
        replace ho_26 := ho_26.ext K_76
        replace ho_27 := ho_27.ext K_76
        replace hb_44 := hb_44.ext K_76
        replace K0 := K0.ext K_76
        refine RL.st rfl <| St1.append (xs := (sndI now n (L.map cv) i).T) (ys := ([(x).hint] : List Hint)) Try.underlying35 ty42 rfl rfl rfl ho_27 ho_77.sl (by first | omega | (simp only [lr]; omega)) (by decide) ?_
        intro a_84 c_85 w_86 ho_87 K_88 hm_89 hrm_90
        have pr_91 : ¬ own a_84 b := hm_89.not pr_31 hb.lt
        have pr_92 : ∀ q_, own a_84 q_ → ¬ own al q_ := hm_89.apart (fun q_ h1 h2 => pr_29 q_ h2 h1) ho_26.own_lt
        have pr_93 : ¬ own a_84 b_41 := hm_89.not pr_49 hb_44.lt
        have pr_94 : ∀ q_, own a_84 q_ → ¬ own (some ⟨b_74, 0, none⟩) q_ := hm_89.apart (fun q_ h1 h2 => pr_81 q_ h2 h1) ho_77.own_lt
        have pg_95 : ∀ q_, own a_84 q_ → q_ < w.heap.size → (boxS b al) q_ := hm_89.inS pr_32 K0.size
        replace hb := hb.keep K_88 pr_31
        replace ho_26 := ho_26.keepO K_88 pr_29
        replace hb_44 := hb_44.keep K_88 pr_49
        replace ho_77 := ho_77.keepO K_88 pr_81
        replace K0 := K0.trans K_88 (fun x hlt hx => pr_32 x hx hlt)
        clear hm_89
        clear hrm_90
        refine RL.val (x_assignSl rfl) ?_
        refine RL.nil ?_
        refine Run.region ?_
        refine RL.val (x_moveI rfl) ?_
        refine RL.val (litI (c := ((((sndI now n (L.map cv) i).c) + 1 : Nat) : Int)) (x_add rfl rfl (by omega) (by omega)) rfl) ?_
        refine RL.val (x_assignI rfl) ?_
        refine RL.nil ?_
        refine Run.inBlock ?_
        refine Run.region ?_
        refine RL.val (x_moveI rfl) ?_
        refine RL.val (litI (c := ((i + 1 : Nat) : Int)) (x_add rfl rfl (by omega) (by omega)) rfl) ?_
        refine RL.val (x_assignI rfl) ?_
        refine RL.nil ?_
        have hL := mix_cv hm (by omega) hx
        have hrx := hrr x (mem_of_at hx)
        have hno := of_yes hc97.2 hrx.2
        have e0 := (sndI_step (now := now) (n := n) hL).trans (sStep_yes hc97.1 hno (by omega))
        have eT : (sndI now n (L.map cv) (i + 1)).T = (sndI now n (L.map cv) i).T ++ [x.hint] := by rw [e0]; rfl
        have eC : (sndI now n (L.map cv) (i + 1)).c = (sndI now n (L.map cv) i).c + 1 := by rw [e0]
        refine ih2 (i + 1) _ _ ?_ (by omega)
        rw [eT, eC]
        refine ⟨_, _, _, ⟨rfl, rfl, rfl, rfl, rfl, trivial⟩, K0, hb, ho_26, ho_87, pr_28, (fun q_ h1 h2 => pr_92 q_ h2 h1), pr_30, pr_91, pg_95, ?_, ?_, ?_, ?_⟩
        · omega
        · exact mix_set2 hm hL (by rw [e0]; rfl) _
        · exact range_set2 hrr ⟨hrx.1, fun _ => ⟨hn0, Int.le_refl _⟩⟩
        · rw [List.length_set, List.length_set]; exact hlr
      · try simp only [br] at hc97
        refine Run.skip ?_
        refine Run.inBlock ?_
        refine Run.region ?_
        refine RL.val (x_moveI rfl) ?_
        refine RL.val (litI (c := ((i + 1 : Nat) : Int)) (x_add rfl rfl (by omega) (by omega)) rfl) ?_
        refine RL.val (x_assignI rfl) ?_
        refine RL.nil ?_
        have hL := mix_cv hm (by omega) hx
        have hrx := hrr x (mem_of_at hx)
        have e0 := (sndI_step (now := now) (n := n) hL).trans (sStep_no' (of_no (c := ((sndI now n (L.map cv) i).c : Int)) (hc97.elim .inl (fun h => .inr ⟨h.1, by omega⟩)) hrx.2))
        have eT : (sndI now n (L.map cv) (i + 1)).T = (sndI now n (L.map cv) i).T := by rw [e0]
        have eC : (sndI now n (L.map cv) (i + 1)).c = (sndI now n (L.map cv) i).c := by rw [e0]
        refine ih2 (i + 1) _ _ ?_ (by omega)
        rw [eT, eC]
        refine ⟨_, _, _, ⟨rfl, rfl, rfl, rfl, rfl, trivial⟩, K0, hb, ho_26, ho_27, pr_28, pr_29, pr_30, pr_31, pr_32, ?_, ?_, ?_, ?_⟩
        · omega
        · rw [mixL_same hL (by rw [e0])]; exact hm
        · exact hrr
        · exact hlr
    · try simp only [br] at hc68
      refine Run.exit rfl ?_
      refine Run.seq ?_
      refine Run.region ?_
      refine RL.val (x_moveSl rfl) ?_
      refine RL.val (x_assignSl rfl) ?_
      refine RL.nil ?_
      refine Run.ret1 (v := .slice (at2) (((sndI now n (L.map cv) i).T).length) (ct2)) Try.func49 rfl rfl ?_
      have hdn := sndI_done (now := now) (n := n) (l := (L.map cv)) (i := i) (by rw [List.length_map]; omega) (by rw [List.length_map]; omega)
      rw [List.length_map] at hdn
      rw [← hdn.1] at ho_27 ⊢
      exact ⟨_, rfl, at2, ct2, Lr, rfl, ho_27, fun x hx => Nat.le_of_not_lt fun hlt => (pr_32 x hx hlt).elim (fun e => pr_31 (e ▸ hx)) (fun h => (fun q_ h1 h2 => pr_29 q_ h2 h1) x hx h), ⟨hb, ho_26, hap, hrr, hn0⟩, by rw [hdn.2]; exact hm, hlr, K0⟩

set_option maxHeartbeats 4000000 in
theorem dueR (b : Nat) (al : Option Addr) (cl : Nat) (L : List RKept) (now : Int) (t : Int) (au : Option Addr) (up : List Int) (cu : Nat) (w : World) (hB : RBoxAt w b al cl L now) (hll : L.length ≤ 4294967295) (hu : SlOf w au up) (hdu : ∀ x, au = some x → up ≠ [] → ¬ boxS b al x.block) (hul : up.length ≤ 1048576) (hn1 : now ≤ 9223372036854775807) (ht1 : t ≤ 9223372036854775807) :
    Calls Try.prog 28 #[.pointer (some ⟨b, 0, none⟩), .int .i64 (t), .slice (au) (up.length) (cu)] w (Ret (fun v w' => ∃ a' c' L', v = .slice a' (due (max now t) (L.map cv) up).T.length c' ∧ OwnSl w' 42 a' c' (due (max now t) (L.map cv) up).T ∧ (∀ x, own a' x → w.heap.size ≤ x) ∧ RBoxAt w' b al cl L' (max now t) ∧ L'.map cv = (due (max now t) (L.map cv) up).L ∧ L'.length = L.length ∧ Keeps (boxS b al) w w')) := by
  obtain ⟨hb, ho, hap, hrg, hn0⟩ := hB
  refine calls_run (n := 66) Try.func28 rfl rfl rfl ?_
  refine Run.seq ?_
  refine Run.region ?_
  refine RL.val (x_assignSl rfl) ?_
  refine RL.nil ?_
  refine Run.seq ?_
  refine Run.seq ?_
  refine Run.region ?_
  refine RL.val (x_moveI rfl) ?_
  refine RL.val (x_moveP rfl) ?_
  refine RL.val (x_nilCheck rfl) ?_
  refine RL.val (x_fld (o' := 1) Try.underlying61 rfl ty3 rfl rfl rfl) ?_
  refine RL.val (x_ld (v := .int .i64 (now)) ty3 rfl rfl (hb.cl.field (i := 1) rfl)) ?_
  refine RL.val (x_gtI rfl rfl) ?_
  refine RL.nil ?_
  refine Run.cond rfl (fun hc16 => ?_) (fun hc16 => ?_)
  · try simp only [br] at hc16
    refine Run.region ?_
    refine RL.val (x_moveP rfl) ?_
    refine RL.val (x_moveI rfl) ?_
    refine RL.val (x_nilCheck rfl) ?_
    refine RL.val (x_fld (o' := 1) Try.underlying61 rfl ty3 rfl rfl rfl) ?_
    refine RL.st rfl <| St1.store (v := .int .i64 (t)) ty3 rfl rfl rfl (by simp [Value.cells, Value.oneCell']) hb (by simp) ?_
    intro w_1 hb_ K_2
    have hb' : Blk w_1 b [.slice (al) (L.length) (cl), .int .i64 (t)] 61 := hb_
    clear hb_
    replace ho := ho.keepO K_2 (fun q_ hq_ eq_ => hap (by simp only [one] at eq_; rw [← eq_]; exact hq_))
    have K0 := (Keeps.refl (boxS b al) w).trans K_2 (fun x _ hx => by simp only [one] at hx; subst hx; exact (Or.inl rfl))
    replace hb := hb'
    clear hb'
    refine RL.nil ?_
    refine Run.seq ?_
    have hB : RBoxAt w_1 b al cl L (max now t) := ⟨by first | exact hb | (rw [show (max now t) = t by omega]; exact hb) | (rw [show (max now t) = now by omega]; exact hb), ho, hap, hrg.mono (by omega), by omega⟩
    clear hb ho
    refine Run.region ?_
    refine RL.val (x_assignSl rfl) ?_
    refine RL.nil ?_
    refine Run.seq ?_
    refine Run.seq ?_
    refine Run.region ?_
    refine RL.val (x_assignI rfl) ?_
    refine RL.nil ?_
    refine Run.block ?_
    refine Run.loop (ι := Nat) (fun i ρ' w' => ∃ Lr : List RKept, ∃ at1 : Option Addr, ∃ ct1 : Nat, Holds ρ' [(0, .pointer (some ⟨b, 0, none⟩)), (2, .slice (au) (up.length) (cu)), (7, .slice (at1) (((dueI (max now t) (L.map cv) up i).T).length) (ct1)), (8, .int .i64 (((i : Nat) : Int)))] ∧ Keeps (boxS b al) w w' ∧ (RBoxAt w' b al cl Lr (max now t)) ∧ (OwnSl w' 42 at1 ct1 ((dueI (max now t) (L.map cv) up i).T)) ∧ (∀ q_, boxS b al q_ → ¬ own at1 q_) ∧ (∀ q_, boxS b al q_ → q_ < w.heap.size → (boxS b al) q_) ∧ (∀ q_, own at1 q_ → q_ < w.heap.size → (boxS b al) q_) ∧ (i ≤ up.length) ∧ (Lr.map cv = (dueI (max now t) (L.map cv) up i).L) ∧ (Lr.length = L.length)) (fun i => up.length - i) 0 ?_ ?_
    · rw [dueI_zero]
      have ho_10 := OwnSl.nil (α := Hint) w_1 42
      refine ⟨_, _, _, ⟨rfl, rfl, rfl, rfl, trivial⟩, K0, hB, ho_10, (fun q_ h1 h2 => (fun q_ h1 _ => own_none q_ h1) q_ h2 h1), (fun q_ h _ => h), (fun q_ h1 _ => absurd h1 (own_none q_)), ?_, ?_, ?_⟩
      · omega
      · rfl
      · rfl
    clear hB
    clear K0
    rintro i ρ_11 w_3 ⟨Lr, at1, ct1, hH_4, K0, hO_5, ho_6, pr_7, pr_8, pr_9, hi, hm, hlr⟩ ih1
    obtain ⟨ρ₀, rfl⟩ := hH_4.ex
    clear hH_4
    refine Run.seq ?_
    refine Run.seq ?_
    refine Run.region ?_
    refine RL.val (x_moveI rfl) ?_
    refine RL.val (x_moveSl rfl) ?_
    refine RL.val (x_lenSl Try.underlying22 rfl) ?_
    refine RL.val (x_ltI rfl rfl) ?_
    refine RL.nil ?_
    refine Run.cond rfl (fun hc24 => ?_) (fun hc24 => ?_)
    · try simp only [br] at hc24
      refine Run.skip ?_
      refine Run.seq ?_
      refine Run.block ?_
      refine Run.seq ?_
      refine Run.region ?_
      refine RL.val (x_moveSl rfl) ?_
      refine RL.val (x_moveI rfl) ?_
      obtain ⟨b_12, o_13, n, hx, ha_14, hc_15⟩ := hu.el (i := i) (by first | omega | (simp only [List.length_set]; omega))
      have hc_15_lt := hc_15.lt
      replace hc_15 := hc_15.keep K0 (hdu _ ha_14 (ne_get hx))
      refine RL.val (x_idxN Try.underlying22 ty3 rfl rfl ha_14 (by first | omega | (simp only [List.length_set]; omega))) ?_
      refine RL.val (x_ldV (v := .int .i64 (n)) (y := n) ty3 rfl hc_15 rfl) ?_
      refine RL.val (x_geI rfl rfl) ?_
      refine RL.val (x_moveB rfl) ?_
      refine RL.gval (wantedT rfl rfl rfl rfl) (fun hg => (x_moveSl rfl)) ?_
      refine RL.gval (wantedT rfl rfl rfl rfl) (fun hg => (x_moveI rfl)) ?_
      obtain ⟨b_18, o_19, x_22, hx_23, ha_20, hc_21⟩ := hu.el (i := i) (by first | omega | (simp only [List.length_set]; omega))
      have hc_21_lt := hc_21.lt
      replace hc_21 := hc_21.keep K0 (hdu _ ha_20 (ne_get hx_23))
      obtain rfl : n = x_22 := Option.some.inj (hx.symm.trans hx_23)
      refine RL.gval (wantedT rfl rfl rfl rfl) (fun hg => (x_idxN Try.underlying22 ty3 (gvr hg) (gvr hg) ha_20 (by first | omega | (simp only [List.length_set]; omega)))) ?_
      refine RL.gval (wantedT rfl rfl rfl rfl) (fun hg => (x_ldV (v := .int .i64 (n)) (y := n) ty3 (gvr hg) hc_21 rfl)) ?_
      refine RL.gval (wantedT rfl rfl rfl rfl) (fun hg => (x_ltI (gvr hg) rfl)) ?_
      refine RL.val (x_and rfl rfl rfl) ?_
      refine RL.val (x_assignB rfl) ?_
      refine RL.nil ?_
      refine Run.seq ?_
      refine Run.seq ?_
      refine Run.region ?_
      refine RL.val (x_assignI rfl) ?_
      refine RL.nil ?_
      refine Run.block ?_
      refine Run.loop (ι := Nat) (fun k ρ' w' => Holds ρ' [(0, .pointer (some ⟨b, 0, none⟩)), (2, .slice (au) (up.length) (cu)), (7, .slice (at1) (((dueI (max now t) (L.map cv) up i).T).length) (ct1)), (8, .int .i64 (((i : Nat) : Int))), (9, .bool (((decide (0 ≤ n) && decide (n < 8)) && !(((up.take i).take k).any (· == n))))), (10, .int .i64 (((k : Nat) : Int))), (21, .int .i64 (((i : Nat) : Int))), (22, .slice (au) (up.length) (cu)), (23, .int .i64 (((up.length : Nat) : Int))), (24, .bool (decide (((i : Nat) : Int) < ((up.length : Nat) : Int))))] ∧ Keeps (boxS b al) w w' ∧ (RBoxAt w' b al cl Lr (max now t)) ∧ (OwnSl w' 42 (at1) (ct1) ((dueI (max now t) (L.map cv) up i).T)) ∧ (k ≤ i)) (fun k => i - k) 0 ?_ ?_
      · rw [List.take_zero, List.any_nil, Bool.not_false, Bool.and_true]
        refine ⟨⟨rfl, rfl, rfl, rfl, rfl, rfl, rfl, rfl, rfl, rfl, trivial⟩, K0, hO_5, ho_6, ?_⟩
        · omega
      clear hO_5 ho_6
      clear K0
      rintro k ρ_26 w_24 ⟨hH_25, K0, hO_5, ho_6, hk⟩ ih2
      obtain ⟨ρ₀, rfl⟩ := hH_25.ex
      clear hH_25
      refine Run.seq ?_
      refine Run.seq ?_
      refine Run.region ?_
      refine RL.val (x_moveI rfl) ?_
      refine RL.val (x_moveI rfl) ?_
      refine RL.val (x_ltI rfl rfl) ?_
      refine RL.nil ?_
      refine Run.cond rfl (fun hc41 => ?_) (fun hc41 => ?_)
      · try simp only [br] at hc41
        refine Run.skip ?_
        refine Run.seq ?_
        refine Run.block ?_
        obtain ⟨b_29, o_30, y, hy, ha_31, hc_32⟩ := hu.el (i := k) (by first | omega | (simp only [List.length_set]; omega))
        have hc_32_lt := hc_32.lt
        replace hc_32 := hc_32.keep K0 (hdu _ ha_31 (ne_get hy))
        obtain ⟨b_35, o_36, x_39, hx_40, ha_37, hc_38⟩ := hu.el (i := i) (by first | omega | (simp only [List.length_set]; omega))
        have hc_38_lt := hc_38.lt
        replace hc_38 := hc_38.keep K0 (hdu _ ha_37 (ne_get hx_40))
        obtain rfl : n = x_39 := Option.some.inj (hx.symm.trans hx_40)
        refine Run.draw' (m := 13) (by kernel_rfl) rfl ?_
        intro w_27 K_28
        replace hO_5 := hO_5.ext K_28
        replace ho_6 := ho_6.ext K_28
        replace hc_32 := hc_32.ext K_28
        replace hc_38 := hc_38.ext K_28
        replace K0 := K0.ext K_28
        refine RA.take (v := .bool (((decide (0 ≤ n) && decide (n < 8)) && !(((up.take i).take k).any (· == n))))) 0 rfl (by kernel_rfl) rfl (by rintro _ rfl; exact (x_moveB rfl)) ?_
        refine RA.take (v := .bool (((decide (0 ≤ n) && decide (n < 8)) && !(((up.take i).take k).any (· == n))))) 1 rfl (by kernel_rfl) rfl (by rintro _ rfl; exact (x_moveB rfl)) ?_
        refine RA.gtake (v := .slice (au) (up.length) (cu)) 2 rfl (by kernel_rfl) rfl (wantedT rfl rfl rfl rfl) (fun hg => by rintro _ rfl; exact (x_moveSl rfl)) ?_
        refine RA.gtake (v := .int .i64 (((k : Nat) : Int))) 3 rfl (by kernel_rfl) rfl (wantedT rfl rfl rfl rfl) (fun hg => by rintro _ rfl; exact (x_moveI rfl)) ?_
        refine RA.gtake (v := .pointer (some ⟨b_29, o_30 + k * 1, none⟩)) 4 rfl (by kernel_rfl) rfl (wantedT rfl rfl rfl rfl) (fun hg => by rintro _ rfl; exact (x_idxN Try.underlying22 ty3 (gvr hg) (gvr hg) ha_31 (by first | omega | (simp only [List.length_set]; omega)))) ?_
        refine RA.gtake (v := .int .i64 (y)) 5 rfl (by kernel_rfl) rfl (wantedT rfl rfl rfl rfl) (fun hg => by rintro _ rfl; exact (x_ldV (v := .int .i64 (y)) (y := y) ty3 (gvr hg) hc_32 rfl)) ?_
        refine RA.gtake (v := .slice (au) (up.length) (cu)) 6 rfl (by kernel_rfl) rfl (wantedT rfl rfl rfl rfl) (fun hg => by rintro _ rfl; exact (x_moveSl rfl)) ?_
        refine RA.gtake (v := .int .i64 (((i : Nat) : Int))) 7 rfl (by kernel_rfl) rfl (wantedT rfl rfl rfl rfl) (fun hg => by rintro _ rfl; exact (x_moveI rfl)) ?_
        refine RA.gtake (v := .pointer (some ⟨b_35, o_36 + i * 1, none⟩)) 8 rfl (by kernel_rfl) rfl (wantedT rfl rfl rfl rfl) (fun hg => by rintro _ rfl; exact (x_idxN Try.underlying22 ty3 (gvr hg) (gvr hg) ha_37 (by first | omega | (simp only [List.length_set]; omega)))) ?_
        refine RA.gtake (v := .int .i64 (n)) 9 rfl (by kernel_rfl) rfl (wantedT rfl rfl rfl rfl) (fun hg => by rintro _ rfl; exact (x_ldV (v := .int .i64 (n)) (y := n) ty3 (gvr hg) hc_38 rfl)) ?_
        refine RA.gtake (v := .bool (y != n)) 10 rfl (by kernel_rfl) rfl (wantedT rfl rfl rfl rfl) (fun hg => by rintro _ rfl; exact (x_neI (gvr hg) (gvr hg))) ?_
        refine RA.take (v := .bool (((decide (0 ≤ n) && decide (n < 8)) && !(((up.take i).take k).any (· == n))) && (y != n))) 11 rfl (by kernel_rfl) rfl (by rintro _ rfl; exact (x_and rfl rfl rfl)) ?_
        refine RA.take (v := .bool (((decide (0 ≤ n) && decide (n < 8)) && !(((up.take i).take k).any (· == n))) && (y != n))) 12 rfl (by kernel_rfl) rfl (by rintro _ rfl; exact (x_assignB rfl)) ?_
        refine RA.done (by kernel_rfl) ?_
        refine Run.inBlock ?_
        refine Run.region ?_
        refine RL.val (x_moveI rfl) ?_
        refine RL.val (litI (c := ((k + 1 : Nat) : Int)) (x_add rfl rfl (by omega) (by omega)) rfl) ?_
        refine RL.val (x_assignI rfl) ?_
        refine RL.nil ?_
        refine ih2 (k + 1) _ _ ?_ (by omega)
        rw [first_step (take_any_step (by omega) hy)]
        refine ⟨⟨rfl, rfl, rfl, rfl, rfl, rfl, rfl, rfl, rfl, rfl, trivial⟩, K0, hO_5, ho_6, ?_⟩
        · omega
      · try simp only [br] at hc41
        refine Run.exit rfl ?_
        refine Run.seq ?_
        refine Run.region ?_
        refine RL.val (x_moveB rfl) ?_
        refine RL.nil ?_
        refine Run.cond rfl (fun hc56 => ?_) (fun hc56 => ?_)
        · try simp only [br] at hc56
          have hkk : i = k := by omega
          subst hkk
          rw [List.take_take, Nat.min_self] at hc56
          have hme := met_in (max now t) (L.map cv) up i (by omega) n
          have hfy := hc56
          have hdl := dueI_len (max now t) (L.map cv) up i (by omega)
          have hsT := sndI_T (max now t) n (Lr.map cv) Lr.length (by rw [List.length_map]; exact Nat.le_refl _)
          refine Run.region ?_
          refine RL.val (x_moveSl rfl) ?_
          refine RL.val (x_moveP rfl) ?_
          refine RL.val (x_moveSl rfl) ?_
          refine RL.val (x_moveI rfl) ?_
          obtain ⟨b_41, o_42, x_45, hx_46, ha_43, hc_44⟩ := hu.el (i := i) (by first | omega | (simp only [List.length_set]; omega))
          have hc_44_lt := hc_44.lt
          replace hc_44 := hc_44.keep K0 (hdu _ ha_43 (ne_get hx_46))
          obtain rfl : n = x_45 := Option.some.inj (hx.symm.trans hx_46)
          refine RL.val (x_idxN Try.underlying22 ty3 rfl rfl ha_43 (by first | omega | (simp only [List.length_set]; omega))) ?_
          refine RL.val (x_ldV (v := .int .i64 (n)) (y := n) ty3 rfl hc_44 rfl) ?_
          refine RL.st rfl <| St1.call (vals := [.pointer (some ⟨b, 0, none⟩), .int .i64 (n)]) en49 rfl (ofR _ _ _ Lr (max now t) n _ hO_5 (by omega) (by omega)) ?_
          rintro _ w_50 ⟨a_47, c_48, L_49, rfl, ho_51, hg_52, hB_53, hcv, hlv, K_54⟩
          have pr_55 : ∀ q_, own a_47 q_ → ¬ boxS b al q_ := apartNew hg_52 hO_5.own_lt
          have pr_56 : ∀ q_, own a_47 q_ → ¬ own at1 q_ := apartNew hg_52 ho_6.own_lt
          have pg_57 : ∀ q_, own a_47 q_ → q_ < w.heap.size → (boxS b al) q_ := fun q_ h hlt => absurd (Nat.le_trans K0.size (hg_52 q_ h)) (by omega)
          clear hg_52
          replace ho_6 := ho_6.keepO K_54 (fun q_ h1 h2 => pr_7 q_ h2 h1)
          replace hc_44 := hc_44.keep K_54 (fun h => hdu _ ha_43 (ne_get hx_46) (pr_8 _ h hc_44_lt))
          replace K0 := K0.trans K_54 (fun x hlt hx => pr_8 x hx hlt)
          replace hO_5 := hB_53
          clear hB_53
          refine RL.st rfl <| St1.append (xs := (dueI (max now t) (L.map cv) up i).T) (ys := (sndI (max now t) n (Lr.map cv) Lr.length).T) Try.underlying35 ty42 rfl rfl rfl ho_6 ho_51.sl (by omega) (by decide) ?_
          intro a_58 c_59 w_60 ho_61 K_62 hm_63 hrm_64
          have pr_65 : ∀ q_, own a_58 q_ → ¬ boxS b al q_ := hm_63.apart (fun q_ h1 h2 => pr_7 q_ h2 h1) hO_5.own_lt
          have pr_66 : ∀ q_, own a_58 q_ → ¬ own a_47 q_ := hm_63.apart (fun q_ h1 h2 => pr_56 q_ h2 h1) ho_51.own_lt
          have pg_67 : ∀ q_, own a_58 q_ → q_ < w.heap.size → (boxS b al) q_ := hm_63.inS pr_9 K0.size
          replace hO_5 := hO_5.keepO K_62 pr_7
          replace hc_44 := hc_44.keep K_62 (fun h => hdu _ ha_43 (ne_get hx_46) (pr_9 _ h hc_44_lt))
          replace ho_51 := ho_51.keepO K_62 pr_56
          replace K0 := K0.trans K_62 (fun x hlt hx => pr_9 x hx hlt)
          clear hm_63
          clear hrm_64
          refine RL.val (x_assignSl rfl) ?_
          refine RL.nil ?_
          refine Run.inBlock ?_
          refine Run.region ?_
          refine RL.val (x_moveI rfl) ?_
          refine RL.val (litI (c := ((i + 1 : Nat) : Int)) (x_add rfl rfl (by omega) (by omega)) rfl) ?_
          refine RL.val (x_assignI rfl) ?_
          refine RL.nil ?_
          have e := (dueI_step (now := (max now t)) (l := (L.map cv)) hx).trans (dStep_yes hfy.1 (by rw [hme hfy.1, hfy.2]))
          have e1 : (dueI (max now t) (L.map cv) up (i + 1)).L = (sndI (max now t) n (Lr.map cv) Lr.length).L := by rw [e, hm, show Lr.length = (dueI (max now t) (L.map cv) up i).L.length by rw [(dueI_len (max now t) (L.map cv) up i (by omega)).1, List.length_map, hlr]]
          have e2 : (dueI (max now t) (L.map cv) up (i + 1)).T = (dueI (max now t) (L.map cv) up i).T ++ (sndI (max now t) n (Lr.map cv) Lr.length).T := by rw [e, hm, show Lr.length = (dueI (max now t) (L.map cv) up i).L.length by rw [(dueI_len (max now t) (L.map cv) up i (by omega)).1, List.length_map, hlr]]
          refine ih1 (i + 1) _ _ ?_ (by omega)
          rw [e1, e2]
          refine ⟨_, _, _, ⟨rfl, rfl, rfl, rfl, trivial⟩, K0, hO_5, ho_61, (fun q_ h1 h2 => pr_65 q_ h2 h1), pr_8, pg_67, ?_, ?_, ?_⟩
          · omega
          · exact hcv
          · omega
        · try simp only [br] at hc56
          have hkk : i = k := by omega
          subst hkk
          rw [List.take_take, Nat.min_self] at hc56
          have hme := met_in (max now t) (L.map cv) up i (by omega) n
          have hfn : (n < 0 ∨ 8 ≤ n) ∨ (0 ≤ n ∧ n < 8 ∧ ((up.take i).any (· == n)) = true) := by
            rcases hc56 with h | h
            · exact .inl h
            · by_cases h1 : n < 0 ∨ 8 ≤ n
              · exact .inl h1
              · exact .inr ⟨by omega, by omega, h⟩
          refine Run.skip ?_
          refine Run.inBlock ?_
          refine Run.region ?_
          refine RL.val (x_moveI rfl) ?_
          refine RL.val (litI (c := ((i + 1 : Nat) : Int)) (x_add rfl rfl (by omega) (by omega)) rfl) ?_
          refine RL.val (x_assignI rfl) ?_
          refine RL.nil ?_
          have e : dueI (max now t) (L.map cv) up (i + 1) = dueI (max now t) (L.map cv) up i := (dueI_step (now := (max now t)) (l := (L.map cv)) hx).trans (dStep_no (hfn.elim .inl (fun h => .inr (by rw [hme ⟨h.1, h.2.1⟩, h.2.2]))))
          refine ih1 (i + 1) _ _ ?_ (by omega)
          rw [e]
          refine ⟨_, _, _, ⟨rfl, rfl, rfl, rfl, trivial⟩, K0, hO_5, ho_6, pr_7, pr_8, pr_9, ?_, ?_, ?_⟩
          · omega
          · exact hm
          · exact hlr
    · try simp only [br] at hc24
      refine Run.exit rfl ?_
      refine Run.seq ?_
      refine Run.region ?_
      refine RL.val (x_moveSl rfl) ?_
      refine RL.val (x_assignSl rfl) ?_
      refine RL.nil ?_
      refine Run.ret1 (v := .slice (at1) (((dueI (max now t) (L.map cv) up i).T).length) (ct1)) Try.func28 rfl rfl ?_
      have hil : i = up.length := by omega
      subst hil
      exact ⟨_, rfl, at1, ct1, Lr, rfl, ho_6, fun x hx => Nat.le_of_not_lt fun hlt => (fun q_ h1 h2 => pr_7 q_ h2 h1) x hx (pr_9 x hx hlt), hO_5, hm, hlr, K0⟩
  · try simp only [br] at hc16
    refine Run.skip ?_
    refine Run.seq ?_
    have hB : RBoxAt w b al cl L (max now t) := ⟨by first | exact hb | (rw [show (max now t) = t by omega]; exact hb) | (rw [show (max now t) = now by omega]; exact hb), ho, hap, hrg.mono (by omega), by omega⟩
    clear hb ho
    refine Run.region ?_
    refine RL.val (x_assignSl rfl) ?_
    refine RL.nil ?_
    refine Run.seq ?_
    refine Run.seq ?_
    refine Run.region ?_
    refine RL.val (x_assignI rfl) ?_
    refine RL.nil ?_
    refine Run.block ?_
    refine Run.loop (ι := Nat) (fun i ρ' w' => ∃ Lr : List RKept, ∃ at1 : Option Addr, ∃ ct1 : Nat, Holds ρ' [(0, .pointer (some ⟨b, 0, none⟩)), (2, .slice (au) (up.length) (cu)), (7, .slice (at1) (((dueI (max now t) (L.map cv) up i).T).length) (ct1)), (8, .int .i64 (((i : Nat) : Int)))] ∧ Keeps (boxS b al) w w' ∧ (RBoxAt w' b al cl Lr (max now t)) ∧ (OwnSl w' 42 at1 ct1 ((dueI (max now t) (L.map cv) up i).T)) ∧ (∀ q_, boxS b al q_ → ¬ own at1 q_) ∧ (∀ q_, boxS b al q_ → q_ < w.heap.size → (boxS b al) q_) ∧ (∀ q_, own at1 q_ → q_ < w.heap.size → (boxS b al) q_) ∧ (i ≤ up.length) ∧ (Lr.map cv = (dueI (max now t) (L.map cv) up i).L) ∧ (Lr.length = L.length)) (fun i => up.length - i) 0 ?_ ?_
    · rw [dueI_zero]
      have ho_75 := OwnSl.nil (α := Hint) w 42
      refine ⟨_, _, _, ⟨rfl, rfl, rfl, rfl, trivial⟩, (Keeps.refl _ w), hB, ho_75, (fun q_ h1 h2 => (fun q_ h1 _ => own_none q_ h1) q_ h2 h1), (fun q_ h _ => h), (fun q_ h1 _ => absurd h1 (own_none q_)), ?_, ?_, ?_⟩
      · omega
      · rfl
      · rfl
    clear hB
    rintro i ρ_76 w_68 ⟨Lr, at1, ct1, hH_69, K0, hO_70, ho_71, pr_72, pr_73, pr_74, hi, hm, hlr⟩ ih3
    obtain ⟨ρ₀, rfl⟩ := hH_69.ex
    clear hH_69
    refine Run.seq ?_
    refine Run.seq ?_
    refine Run.region ?_
    refine RL.val (x_moveI rfl) ?_
    refine RL.val (x_moveSl rfl) ?_
    refine RL.val (x_lenSl Try.underlying22 rfl) ?_
    refine RL.val (x_ltI rfl rfl) ?_
    refine RL.nil ?_
    refine Run.cond rfl (fun hc24 => ?_) (fun hc24 => ?_)
    · try simp only [br] at hc24
      refine Run.skip ?_
      refine Run.seq ?_
      refine Run.block ?_
      refine Run.seq ?_
      refine Run.region ?_
      refine RL.val (x_moveSl rfl) ?_
      refine RL.val (x_moveI rfl) ?_
      obtain ⟨b_77, o_78, n, hx, ha_79, hc_80⟩ := hu.el (i := i) (by first | omega | (simp only [List.length_set]; omega))
      have hc_80_lt := hc_80.lt
      replace hc_80 := hc_80.keep K0 (hdu _ ha_79 (ne_get hx))
      refine RL.val (x_idxN Try.underlying22 ty3 rfl rfl ha_79 (by first | omega | (simp only [List.length_set]; omega))) ?_
      refine RL.val (x_ldV (v := .int .i64 (n)) (y := n) ty3 rfl hc_80 rfl) ?_
      refine RL.val (x_geI rfl rfl) ?_
      refine RL.val (x_moveB rfl) ?_
      refine RL.gval (wantedT rfl rfl rfl rfl) (fun hg => (x_moveSl rfl)) ?_
      refine RL.gval (wantedT rfl rfl rfl rfl) (fun hg => (x_moveI rfl)) ?_
      obtain ⟨b_83, o_84, x_87, hx_88, ha_85, hc_86⟩ := hu.el (i := i) (by first | omega | (simp only [List.length_set]; omega))
      have hc_86_lt := hc_86.lt
      replace hc_86 := hc_86.keep K0 (hdu _ ha_85 (ne_get hx_88))
      obtain rfl : n = x_87 := Option.some.inj (hx.symm.trans hx_88)
      refine RL.gval (wantedT rfl rfl rfl rfl) (fun hg => (x_idxN Try.underlying22 ty3 (gvr hg) (gvr hg) ha_85 (by first | omega | (simp only [List.length_set]; omega)))) ?_
      refine RL.gval (wantedT rfl rfl rfl rfl) (fun hg => (x_ldV (v := .int .i64 (n)) (y := n) ty3 (gvr hg) hc_86 rfl)) ?_
      refine RL.gval (wantedT rfl rfl rfl rfl) (fun hg => (x_ltI (gvr hg) rfl)) ?_
      refine RL.val (x_and rfl rfl rfl) ?_
      refine RL.val (x_assignB rfl) ?_
      refine RL.nil ?_
      refine Run.seq ?_
      refine Run.seq ?_
      refine Run.region ?_
      refine RL.val (x_assignI rfl) ?_
      refine RL.nil ?_
      refine Run.block ?_
      refine Run.loop (ι := Nat) (fun k ρ' w' => Holds ρ' [(0, .pointer (some ⟨b, 0, none⟩)), (2, .slice (au) (up.length) (cu)), (7, .slice (at1) (((dueI (max now t) (L.map cv) up i).T).length) (ct1)), (8, .int .i64 (((i : Nat) : Int))), (9, .bool (((decide (0 ≤ n) && decide (n < 8)) && !(((up.take i).take k).any (· == n))))), (10, .int .i64 (((k : Nat) : Int))), (21, .int .i64 (((i : Nat) : Int))), (22, .slice (au) (up.length) (cu)), (23, .int .i64 (((up.length : Nat) : Int))), (24, .bool (decide (((i : Nat) : Int) < ((up.length : Nat) : Int))))] ∧ Keeps (boxS b al) w w' ∧ (RBoxAt w' b al cl Lr (max now t)) ∧ (OwnSl w' 42 (at1) (ct1) ((dueI (max now t) (L.map cv) up i).T)) ∧ (k ≤ i)) (fun k => i - k) 0 ?_ ?_
      · rw [List.take_zero, List.any_nil, Bool.not_false, Bool.and_true]
        refine ⟨⟨rfl, rfl, rfl, rfl, rfl, rfl, rfl, rfl, rfl, rfl, trivial⟩, K0, hO_70, ho_71, ?_⟩
        · omega
      clear hO_70 ho_71
      clear K0
      rintro k ρ_91 w_89 ⟨hH_90, K0, hO_70, ho_71, hk⟩ ih4
      obtain ⟨ρ₀, rfl⟩ := hH_90.ex
      clear hH_90
      refine Run.seq ?_
      refine Run.seq ?_
      refine Run.region ?_
      refine RL.val (x_moveI rfl) ?_
      refine RL.val (x_moveI rfl) ?_
      refine RL.val (x_ltI rfl rfl) ?_
      refine RL.nil ?_
      refine Run.cond rfl (fun hc41 => ?_) (fun hc41 => ?_)
      · try simp only [br] at hc41
        refine Run.skip ?_
        refine Run.seq ?_
        refine Run.block ?_
        obtain ⟨b_94, o_95, y, hy, ha_96, hc_97⟩ := hu.el (i := k) (by first | omega | (simp only [List.length_set]; omega))
        have hc_97_lt := hc_97.lt
        replace hc_97 := hc_97.keep K0 (hdu _ ha_96 (ne_get hy))
        obtain ⟨b_100, o_101, x_104, hx_105, ha_102, hc_103⟩ := hu.el (i := i) (by first | omega | (simp only [List.length_set]; omega))
        have hc_103_lt := hc_103.lt
        replace hc_103 := hc_103.keep K0 (hdu _ ha_102 (ne_get hx_105))
        obtain rfl : n = x_104 := Option.some.inj (hx.symm.trans hx_105)
        refine Run.draw' (m := 13) (by kernel_rfl) rfl ?_
        intro w_92 K_93
        replace hO_70 := hO_70.ext K_93
        replace ho_71 := ho_71.ext K_93
        replace hc_97 := hc_97.ext K_93
        replace hc_103 := hc_103.ext K_93
        replace K0 := K0.ext K_93
        refine RA.take (v := .bool (((decide (0 ≤ n) && decide (n < 8)) && !(((up.take i).take k).any (· == n))))) 0 rfl (by kernel_rfl) rfl (by rintro _ rfl; exact (x_moveB rfl)) ?_
        refine RA.take (v := .bool (((decide (0 ≤ n) && decide (n < 8)) && !(((up.take i).take k).any (· == n))))) 1 rfl (by kernel_rfl) rfl (by rintro _ rfl; exact (x_moveB rfl)) ?_
        refine RA.gtake (v := .slice (au) (up.length) (cu)) 2 rfl (by kernel_rfl) rfl (wantedT rfl rfl rfl rfl) (fun hg => by rintro _ rfl; exact (x_moveSl rfl)) ?_
        refine RA.gtake (v := .int .i64 (((k : Nat) : Int))) 3 rfl (by kernel_rfl) rfl (wantedT rfl rfl rfl rfl) (fun hg => by rintro _ rfl; exact (x_moveI rfl)) ?_
        refine RA.gtake (v := .pointer (some ⟨b_94, o_95 + k * 1, none⟩)) 4 rfl (by kernel_rfl) rfl (wantedT rfl rfl rfl rfl) (fun hg => by rintro _ rfl; exact (x_idxN Try.underlying22 ty3 (gvr hg) (gvr hg) ha_96 (by first | omega | (simp only [List.length_set]; omega)))) ?_
        refine RA.gtake (v := .int .i64 (y)) 5 rfl (by kernel_rfl) rfl (wantedT rfl rfl rfl rfl) (fun hg => by rintro _ rfl; exact (x_ldV (v := .int .i64 (y)) (y := y) ty3 (gvr hg) hc_97 rfl)) ?_
        refine RA.gtake (v := .slice (au) (up.length) (cu)) 6 rfl (by kernel_rfl) rfl (wantedT rfl rfl rfl rfl) (fun hg => by rintro _ rfl; exact (x_moveSl rfl)) ?_
        refine RA.gtake (v := .int .i64 (((i : Nat) : Int))) 7 rfl (by kernel_rfl) rfl (wantedT rfl rfl rfl rfl) (fun hg => by rintro _ rfl; exact (x_moveI rfl)) ?_
        refine RA.gtake (v := .pointer (some ⟨b_100, o_101 + i * 1, none⟩)) 8 rfl (by kernel_rfl) rfl (wantedT rfl rfl rfl rfl) (fun hg => by rintro _ rfl; exact (x_idxN Try.underlying22 ty3 (gvr hg) (gvr hg) ha_102 (by first | omega | (simp only [List.length_set]; omega)))) ?_
        refine RA.gtake (v := .int .i64 (n)) 9 rfl (by kernel_rfl) rfl (wantedT rfl rfl rfl rfl) (fun hg => by rintro _ rfl; exact (x_ldV (v := .int .i64 (n)) (y := n) ty3 (gvr hg) hc_103 rfl)) ?_
        refine RA.gtake (v := .bool (y != n)) 10 rfl (by kernel_rfl) rfl (wantedT rfl rfl rfl rfl) (fun hg => by rintro _ rfl; exact (x_neI (gvr hg) (gvr hg))) ?_
        refine RA.take (v := .bool (((decide (0 ≤ n) && decide (n < 8)) && !(((up.take i).take k).any (· == n))) && (y != n))) 11 rfl (by kernel_rfl) rfl (by rintro _ rfl; exact (x_and rfl rfl rfl)) ?_
        refine RA.take (v := .bool (((decide (0 ≤ n) && decide (n < 8)) && !(((up.take i).take k).any (· == n))) && (y != n))) 12 rfl (by kernel_rfl) rfl (by rintro _ rfl; exact (x_assignB rfl)) ?_
        refine RA.done (by kernel_rfl) ?_
        refine Run.inBlock ?_
        refine Run.region ?_
        refine RL.val (x_moveI rfl) ?_
        refine RL.val (litI (c := ((k + 1 : Nat) : Int)) (x_add rfl rfl (by omega) (by omega)) rfl) ?_
        refine RL.val (x_assignI rfl) ?_
        refine RL.nil ?_
        refine ih4 (k + 1) _ _ ?_ (by omega)
        rw [first_step (take_any_step (by omega) hy)]
        refine ⟨⟨rfl, rfl, rfl, rfl, rfl, rfl, rfl, rfl, rfl, rfl, trivial⟩, K0, hO_70, ho_71, ?_⟩
        · omega
      · try simp only [br] at hc41
        refine Run.exit rfl ?_
        refine Run.seq ?_
        refine Run.region ?_
        refine RL.val (x_moveB rfl) ?_
        refine RL.nil ?_
        refine Run.cond rfl (fun hc56 => ?_) (fun hc56 => ?_)
        · try simp only [br] at hc56
          have hkk : i = k := by omega
          subst hkk
          rw [List.take_take, Nat.min_self] at hc56
          have hme := met_in (max now t) (L.map cv) up i (by omega) n
          have hfy := hc56
          have hdl := dueI_len (max now t) (L.map cv) up i (by omega)
          have hsT := sndI_T (max now t) n (Lr.map cv) Lr.length (by rw [List.length_map]; exact Nat.le_refl _)
          refine Run.region ?_
          refine RL.val (x_moveSl rfl) ?_
          refine RL.val (x_moveP rfl) ?_
          refine RL.val (x_moveSl rfl) ?_
          refine RL.val (x_moveI rfl) ?_
          obtain ⟨b_106, o_107, x_110, hx_111, ha_108, hc_109⟩ := hu.el (i := i) (by first | omega | (simp only [List.length_set]; omega))
          have hc_109_lt := hc_109.lt
          replace hc_109 := hc_109.keep K0 (hdu _ ha_108 (ne_get hx_111))
          obtain rfl : n = x_110 := Option.some.inj (hx.symm.trans hx_111)
          refine RL.val (x_idxN Try.underlying22 ty3 rfl rfl ha_108 (by first | omega | (simp only [List.length_set]; omega))) ?_
          refine RL.val (x_ldV (v := .int .i64 (n)) (y := n) ty3 rfl hc_109 rfl) ?_
          refine RL.st rfl <| St1.call (vals := [.pointer (some ⟨b, 0, none⟩), .int .i64 (n)]) en49 rfl (ofR _ _ _ Lr (max now t) n _ hO_70 (by omega) (by omega)) ?_
          rintro _ w_115 ⟨a_112, c_113, L_114, rfl, ho_116, hg_117, hB_118, hcv, hlv, K_119⟩
          have pr_120 : ∀ q_, own a_112 q_ → ¬ boxS b al q_ := apartNew hg_117 hO_70.own_lt
          have pr_121 : ∀ q_, own a_112 q_ → ¬ own at1 q_ := apartNew hg_117 ho_71.own_lt
          have pg_122 : ∀ q_, own a_112 q_ → q_ < w.heap.size → (boxS b al) q_ := fun q_ h hlt => absurd (Nat.le_trans K0.size (hg_117 q_ h)) (by omega)
          clear hg_117
          replace ho_71 := ho_71.keepO K_119 (fun q_ h1 h2 => pr_72 q_ h2 h1)
          replace hc_109 := hc_109.keep K_119 (fun h => hdu _ ha_108 (ne_get hx_111) (pr_73 _ h hc_109_lt))
          replace K0 := K0.trans K_119 (fun x hlt hx => pr_73 x hx hlt)
          replace hO_70 := hB_118
          clear hB_118
          refine RL.st rfl <| St1.append (xs := (dueI (max now t) (L.map cv) up i).T) (ys := (sndI (max now t) n (Lr.map cv) Lr.length).T) Try.underlying35 ty42 rfl rfl rfl ho_71 ho_116.sl (by omega) (by decide) ?_
          intro a_123 c_124 w_125 ho_126 K_127 hm_128 hrm_129
          have pr_130 : ∀ q_, own a_123 q_ → ¬ boxS b al q_ := hm_128.apart (fun q_ h1 h2 => pr_72 q_ h2 h1) hO_70.own_lt
          have pr_131 : ∀ q_, own a_123 q_ → ¬ own a_112 q_ := hm_128.apart (fun q_ h1 h2 => pr_121 q_ h2 h1) ho_116.own_lt
          have pg_132 : ∀ q_, own a_123 q_ → q_ < w.heap.size → (boxS b al) q_ := hm_128.inS pr_74 K0.size
          replace hO_70 := hO_70.keepO K_127 pr_72
          replace hc_109 := hc_109.keep K_127 (fun h => hdu _ ha_108 (ne_get hx_111) (pr_74 _ h hc_109_lt))
          replace ho_116 := ho_116.keepO K_127 pr_121
          replace K0 := K0.trans K_127 (fun x hlt hx => pr_74 x hx hlt)
          clear hm_128
          clear hrm_129
          refine RL.val (x_assignSl rfl) ?_
          refine RL.nil ?_
          refine Run.inBlock ?_
          refine Run.region ?_
          refine RL.val (x_moveI rfl) ?_
          refine RL.val (litI (c := ((i + 1 : Nat) : Int)) (x_add rfl rfl (by omega) (by omega)) rfl) ?_
          refine RL.val (x_assignI rfl) ?_
          refine RL.nil ?_
          have e := (dueI_step (now := (max now t)) (l := (L.map cv)) hx).trans (dStep_yes hfy.1 (by rw [hme hfy.1, hfy.2]))
          have e1 : (dueI (max now t) (L.map cv) up (i + 1)).L = (sndI (max now t) n (Lr.map cv) Lr.length).L := by rw [e, hm, show Lr.length = (dueI (max now t) (L.map cv) up i).L.length by rw [(dueI_len (max now t) (L.map cv) up i (by omega)).1, List.length_map, hlr]]
          have e2 : (dueI (max now t) (L.map cv) up (i + 1)).T = (dueI (max now t) (L.map cv) up i).T ++ (sndI (max now t) n (Lr.map cv) Lr.length).T := by rw [e, hm, show Lr.length = (dueI (max now t) (L.map cv) up i).L.length by rw [(dueI_len (max now t) (L.map cv) up i (by omega)).1, List.length_map, hlr]]
          refine ih3 (i + 1) _ _ ?_ (by omega)
          rw [e1, e2]
          refine ⟨_, _, _, ⟨rfl, rfl, rfl, rfl, trivial⟩, K0, hO_70, ho_126, (fun q_ h1 h2 => pr_130 q_ h2 h1), pr_73, pg_132, ?_, ?_, ?_⟩
          · omega
          · exact hcv
          · omega
        · try simp only [br] at hc56
          have hkk : i = k := by omega
          subst hkk
          rw [List.take_take, Nat.min_self] at hc56
          have hme := met_in (max now t) (L.map cv) up i (by omega) n
          have hfn : (n < 0 ∨ 8 ≤ n) ∨ (0 ≤ n ∧ n < 8 ∧ ((up.take i).any (· == n)) = true) := by
            rcases hc56 with h | h
            · exact .inl h
            · by_cases h1 : n < 0 ∨ 8 ≤ n
              · exact .inl h1
              · exact .inr ⟨by omega, by omega, h⟩
          refine Run.skip ?_
          refine Run.inBlock ?_
          refine Run.region ?_
          refine RL.val (x_moveI rfl) ?_
          refine RL.val (litI (c := ((i + 1 : Nat) : Int)) (x_add rfl rfl (by omega) (by omega)) rfl) ?_
          refine RL.val (x_assignI rfl) ?_
          refine RL.nil ?_
          have e : dueI (max now t) (L.map cv) up (i + 1) = dueI (max now t) (L.map cv) up i := (dueI_step (now := (max now t)) (l := (L.map cv)) hx).trans (dStep_no (hfn.elim .inl (fun h => .inr (by rw [hme ⟨h.1, h.2.1⟩, h.2.2]))))
          refine ih3 (i + 1) _ _ ?_ (by omega)
          rw [e]
          refine ⟨_, _, _, ⟨rfl, rfl, rfl, rfl, trivial⟩, K0, hO_70, ho_71, pr_72, pr_73, pr_74, ?_, ?_, ?_⟩
          · omega
          · exact hm
          · exact hlr
    · try simp only [br] at hc24
      refine Run.exit rfl ?_
      refine Run.seq ?_
      refine Run.region ?_
      refine RL.val (x_moveSl rfl) ?_
      refine RL.val (x_assignSl rfl) ?_
      refine RL.nil ?_
      refine Run.ret1 (v := .slice (at1) (((dueI (max now t) (L.map cv) up i).T).length) (ct1)) Try.func28 rfl rfl ?_
      have hil : i = up.length := by omega
      subst hil
      exact ⟨_, rfl, at1, ct1, Lr, rfl, ho_71, fun x hx => Nat.le_of_not_lt fun hlt => (fun q_ h1 h2 => pr_72 q_ h2 h1) x hx (pr_74 x hx hlt), hO_70, hm, hlr, K0⟩

end Go.Proofs.Ytlediffjclploaa
