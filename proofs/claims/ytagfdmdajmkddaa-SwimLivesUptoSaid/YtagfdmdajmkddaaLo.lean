/-
  The reference's table: Hear, old.
-/
import Derived.Test.YtagfdmdajmkddaaRows
import Derived.Test.YtagfdmdajmkddaaLn
namespace Go.Proofs.Ytagfdmdajmkddaa
attribute [local irreducible] St1 RL RA RT RT1 Run

open Sa
theorem hear_nev {n : Int} (T : Tab) (l : List Peer) (ok : TabOk T) (h : Nev n T) (hn : 0 ≤ n ∧ n < 8) : ∀ i, i ≤ l.length → Nev n (tf hear1 (T, []) l i).1 := by
  have key : ∀ i, i ≤ l.length → (fun (_ : Nat) (s : Tab × List Peer) => TabOk s.1 ∧ Nev n s.1) i (tf hear1 (T, []) l i) := by
    refine tf_ind (fun (_ : Nat) (s : Tab × List Peer) => TabOk s.1 ∧ Nev n s.1) ⟨ok, h⟩ ?_
    intro i p s hx ⟨hok, hN⟩
    by_cases hm : mayB p = true
    · have hr := (may_range hm).1
      by_cases hns : p.node = s.1.self
      · rw [hear1_own hm hns]
        exact ⟨(ownT_ok hok).1, (nev_ownT hok hN).1⟩
      · obtain ⟨k, hk⟩ : ∃ k, s.1.l[p.node.toNat]? = some k := ⟨_, List.getElem?_eq_getElem (by have := hok.len; omega)⟩
        have hne : p.node ≠ n := by rw [← hN.self]; exact hns
        by_cases hg : k.peer.status = 0 ∨ greaterB p k.peer = true
        · rw [hear1_new hm hns hk hg]
          exact ⟨learnT_ok hok hr, learn_nev hN hne hr.1 hn.1⟩
        · rw [hear1_same hm hns hk hg]; exact ⟨hok, hN⟩
    · rw [hear1_bad (by simpa using hm)]; exact ⟨hok, hN⟩
  exact fun i hi => (key i hi).2
theorem own_find {T : Tab} (ok : TabOk T) (nv : Nev T.self T) : ∃ k, 0 ≤ T.self ∧ T.self < 8 ∧ T.l[T.self.toNat]? = some k ∧ k.peer.status = 1 ∧ findI (fun x : KnownM => x.peer.node == T.self) (knownL T.l) = (posL T.l T.self.toNat : Int) := by
  obtain ⟨k, hk, hs⟩ := nv.own
  have h0 := ok.self0
  refine ⟨k, h0.1, h0.2, hk, hs, ?_⟩
  have := find_known ok hk (by omega)
  rwa [show ((T.self.toNat : Nat) : Int) = T.self by omega] at this
theorem set_same {l : List KnownM} {n : Nat} {k : KnownM} (h : l[n]? = some k) : l.set n k = l := by
  obtain ⟨hn, rfl⟩ := List.getElem?_eq_some_iff.1 h
  exact List.set_getElem_self hn
theorem find_neg {T : Tab} (ok : TabOk T) {n : Int} (hn : 0 ≤ n ∧ n < 8) (h : findI (fun x : KnownM => x.peer.node == n) (knownL T.l) < 0) : ∃ k, T.l[n.toNat]? = some k ∧ k.peer.status = 0 := by
  obtain ⟨k, hk⟩ : ∃ k, T.l[n.toNat]? = some k := ⟨_, List.getElem?_eq_getElem (by have := ok.len; omega)⟩
  rcases statusL_find ok n with ⟨_, h2⟩ | ⟨k', _, _, _, _, h2, _⟩
  · rw [statusL_at hn hk] at h2; exact ⟨k, hk, h2⟩
  · omega
/-! ### old -/
def isOld (now : Int) (k : KnownM) : Bool := decide (k.peer.status = 2 ∧ 300 ≤ now - k.since)
def oldF (now : Int) (k : KnownM) : KnownM := if k.peer.status = 2 ∧ 300 ≤ now - k.since then ⟨{ k.peer with status := 3 }, now⟩ else k
def gone (k : KnownM) : Peer := { k.peer with status := 3 }
theorem old_form {T : Tab} (ok : TabOk T) : ∀ i, i ≤ 8 → rf old1 (T, []) i = ({ T with l := (T.l.take i).map (oldF T.now) ++ T.l.drop i }, ((T.l.take i).filter (isOld T.now)).map gone) := by
  intro i
  induction i with
  | zero => intro _; simp [rf]
  | succ i ih =>
    intro hi
    have hl := ok.len
    have hlt : i < T.l.length := by omega
    rw [rf_succ, ih (by omega)]
    have hk : ({ T with l := (T.l.take i).map (oldF T.now) ++ T.l.drop i } : Tab).l[i]? = some T.l[i] := by
      simp only
      rw [List.getElem?_append_right (by simp; omega), List.getElem?_drop]
      simp only [List.length_map, List.length_take]
      rw [show i + (i - min i T.l.length) = i by omega]
      simp
    have e1 : T.l.take (i + 1) = T.l.take i ++ [T.l[i]] := List.take_succ_eq_append_getElem hlt
    have e2 : T.l.drop i = T.l[i] :: T.l.drop (i + 1) := List.drop_eq_getElem_cons hlt
    by_cases hc : T.l[i].peer.status = 2 ∧ 300 ≤ T.now - T.l[i].since
    · rw [old1_yes hk hc, e1]
      have hn := (ok.known i T.l[i] (by simp)).2.2 (by omega)
      have hf : isOld T.now T.l[i] = true := by simpa [isOld] using hc
      have hF : oldF T.now T.l[i] = ⟨{ T.l[i].peer with status := 3 }, T.now⟩ := if_pos hc
      simp only [learnT, List.map_append, List.filter_append, List.map_cons, List.map_nil, hF]
      congr 1
      · congr 1
        rw [show T.l[i].peer.node.toNat = i by omega, List.set_append_right _ _ (by simp; omega)]
        simp only [List.length_map, List.length_take]
        rw [show i - min i T.l.length = 0 by omega, e2, List.set_cons_zero, List.append_assoc]
        rfl
      · simp only [List.filter_cons, hf, if_true, List.filter_nil, List.map_cons, List.map_nil]
        rfl
    · rw [old1_no hk hc, e1]
      have hf : isOld T.now T.l[i] = false := by simpa [isOld] using hc
      have hF : oldF T.now T.l[i] = T.l[i] := if_neg hc
      simp only [List.map_append, List.filter_append, List.map_cons, List.map_nil, hF]
      congr 1
      · congr 1
        rw [e2]
        simp
      · simp [List.filter_cons, hf]
theorem known_old (now : Int) : ∀ l : List KnownM, knownL (l.map (oldF now)) = (knownL l).map (oldF now)
  | [] => rfl
  | k :: l => by
    have ih := known_old now l
    have hs : (oldF now k).peer.status = 0 ↔ k.peer.status = 0 := by
      unfold oldF
      split
      · rename_i h; simp only; omega
      · exact Iff.rfl
    unfold knownL at ih ⊢
    rw [List.map_cons, List.filter_cons, List.filter_cons]
    by_cases h0 : k.peer.status = 0
    · have h1 := hs.2 h0
      simp only [h0, h1]
      exact ih
    · have h1 : (oldF now k).peer.status ≠ 0 := fun e => h0 (hs.1 e)
      rw [if_pos (by simpa using h1), if_pos (by simpa using h0), List.map_cons, ih]
theorem gone_known (now : Int) (l : List KnownM) : ((knownL l).filter (isOld now)).map gone = (l.filter (isOld now)).map gone := by
  unfold knownL
  rw [List.filter_filter]
  congr 1
  apply List.filter_congr
  intro k _
  cases h : isOld now k with
  | false => rfl
  | true =>
    simp only [isOld, decide_eq_true_eq] at h
    have : (k.peer.status != 0) = true := by rw [h.1]; rfl
    rw [this]; rfl
theorem old_all {T : Tab} (ok : TabOk T) : knownL (oldT T).1.l = (knownL T.l).map (oldF T.now) ∧ (oldT T).2 = ((knownL T.l).filter (isOld T.now)).map gone ∧ (oldT T).1 = { T with l := T.l.map (oldF T.now) } := by
  have e := old_form ok 8 (Nat.le_refl _)
  have hl := ok.len
  have e2 : oldT T = ({ T with l := T.l.map (oldF T.now) }, (T.l.filter (isOld T.now)).map gone) := by
    unfold oldT
    rw [e, List.take_of_length_le (by omega), List.drop_eq_nil_of_le (by omega), List.append_nil]
  rw [e2]
  exact ⟨known_old _ _, (gone_known _ _).symm, rfl⟩
def mixO (T : Tab) (i : Nat) : List KnownM := ((knownL T.l).take i).map (oldF T.now) ++ (knownL T.l).drop i
theorem mixO_zero (T : Tab) : mixO T 0 = knownL T.l := by simp [mixO]
theorem mixO_len {T : Tab} {i : Nat} (h : i ≤ (knownL T.l).length) : (mixO T i).length = (knownL T.l).length := by simp [mixO]; omega
theorem mixO_get {T : Tab} {i : Nat} (h : i < (knownL T.l).length) : (mixO T i)[i]? = (knownL T.l)[i]? := by
  unfold mixO
  rw [List.getElem?_append_right (by simp; omega), List.getElem?_drop]
  simp only [List.length_map, List.length_take]
  rw [show i + (i - min i (knownL T.l).length) = i by omega]
theorem mixO_set {T : Tab} {i : Nat} {x : KnownM} (hx : (knownL T.l)[i]? = some x) : (mixO T i).set i (oldF T.now x) = mixO T (i + 1) := by
  obtain ⟨hi, rfl⟩ := List.getElem?_eq_some_iff.1 hx
  unfold mixO
  rw [List.set_append_right _ _ (by simp; omega)]
  simp only [List.length_map, List.length_take]
  rw [show i - min i (knownL T.l).length = 0 by omega, List.drop_eq_getElem_cons hi, List.set_cons_zero, List.take_succ_eq_append_getElem hi, List.map_append, List.append_assoc]
  rfl
theorem mixO_same {T : Tab} {i : Nat} {x : KnownM} (hx : (knownL T.l)[i]? = some x) (hc : oldF T.now x = x) : mixO T (i + 1) = mixO T i := by
  rw [← mixO_set hx, hc]
  obtain ⟨hi, rfl⟩ := List.getElem?_eq_some_iff.1 hx
  apply List.ext_getElem?
  intro j
  rw [List.getElem?_set]
  split
  · rename_i h
    subst h
    rw [mixO_get hi]
    rw [if_pos (by rw [mixO_len (by omega)]; exact hi)]
    simp
  · rfl
theorem gone_snoc {T : Tab} {i : Nat} {x : KnownM} (hx : (knownL T.l)[i]? = some x) : (((knownL T.l).take (i + 1)).filter (isOld T.now)).map gone = (((knownL T.l).take i).filter (isOld T.now)).map gone ++ (if isOld T.now x = true then [gone x] else []) := by
  obtain ⟨hi, rfl⟩ := List.getElem?_eq_some_iff.1 hx
  rw [List.take_succ_eq_append_getElem hi, List.filter_append, List.map_append]
  congr 1
  split
  · rename_i h; simp [h]
  · rename_i h; simp [h]
theorem gone_len (T : Tab) (i : Nat) : ((((knownL T.l).take i).filter (isOld T.now)).map gone).length ≤ i := by
  rw [List.length_map]
  have := List.length_filter_le (isOld T.now) ((knownL T.l).take i)
  have := List.length_take_le i (knownL T.l)
  omega

theorem en48 : Enters Try.prog 48 := enters_of Try.func48 rfl (by kernel_rfl)
theorem en50 : Enters Try.prog 50 := enters_of Try.func50 rfl (by kernel_rfl)

set_option maxRecDepth 100000 in
set_option maxHeartbeats 4000000 in
theorem hearR_ (b : Nat) (aL : Option Addr) (cL : Nat) (aP : Option Addr) (cP : Nat) (T : Tab) (a0 : Option Addr) (l : List Peer) (c0 : Nat) (t : Int) (w : World) (hR : RTabAt w b aL cL aP cP T) (hl0 : SlOf w a0 l) (hd0 : ∀ x, a0 = some x → l ≠ [] → ¬ rtabS b aL aP x.block) (hll : l.length ≤ 4194304) (ht : t ≤ 9223372036854775807) :
    Calls Try.prog 33 #[.pointer (some ⟨b, 0, none⟩), .slice (a0) (l.length) (c0), .int .i64 (t)] w (Ret (fun v w' => ∃ aL' cL' aP' cP' a9 c9, v = .slice a9 (hear T l t).2.length c9 ∧ RTabAt w' b aL' cL' aP' cP' ((hear T l t).1) ∧ OwnSl w' 23 a9 c9 ((hear T l t).2) ∧ (∀ x, own a9 x → w.heap.size ≤ x) ∧ (∀ x, own a9 x → ¬ rtabS b aL' aP' x) ∧ MovedS w (rtabS b aL aP) (rtabS b aL' aP') ∧ Keeps (rtabS b aL aP) w w')) := by
  have hz0 : ∀ q_, rtabS b aL aP q_ → q_ < w.heap.size → rtabS b aL aP q_ := fun _ h _ => h
  have hok := passT_ok hR.ok ht
  have hnv : Nev T.self (passT T t) := pass_nev hR.nev
  have hsf := hR.ok.self0
  refine calls_run (n := 120) Try.func33 rfl rfl rfl ?_
  refine Run.seq ?_
  refine Run.region ?_
  refine RL.val (x_assignSl rfl) ?_
  refine RL.nil ?_
  refine Run.seq ?_
  refine Run.region ?_
  refine RL.val (x_moveP rfl) ?_
  refine RL.val (x_moveI rfl) ?_
  refine RL.st rfl <| St1.call (vals := [.pointer (some ⟨b, 0, none⟩), .int .i64 (t)]) en48 rfl (passR_ _ _ _ _ _ T t _ hR (by omega)) ?_
  rintro _ w_5 ⟨aL_1, cL_2, aP_3, cP_4, rfl, hR_6, hm_7, K_8⟩
  have pg_9 : ∀ q_, rtabS b aL_1 aP_3 q_ → q_ < w.heap.size → (rtabS b aL aP) q_ := hm_7.inS hz0 (Nat.le_refl _)
  have K0 := (Keeps.refl (rtabS b aL aP) w).trans K_8 (fun x hlt hx => hz0 x hx hlt)
  clear hm_7 
  refine RL.nil ?_
  refine Run.seq ?_
  refine Run.region ?_
  refine RL.val (x_assignSl rfl) ?_
  refine RL.nil ?_
  refine Run.seq ?_
  refine Run.seq ?_
  refine Run.region ?_
  refine RL.val (x_assignI rfl) ?_
  refine RL.nil ?_
  refine Run.block ?_
  refine Run.loop (ι := Nat) (fun i ρ' w' => ∃ aLb : Option Addr, ∃ cLb : Nat, ∃ aPb : Option Addr, ∃ cPb : Nat, ∃ at1 : Option Addr, ∃ ct1 : Nat, Holds ρ' [(0, .pointer (some ⟨b, 0, none⟩)), (1, .slice (a0) (l.length) (c0)), (7, .slice (at1) (((tf hear1 (passT T t, []) l i).2).length) (ct1)), (8, .int .i64 (((i : Nat) : Int)))] ∧ Keeps (rtabS b aL aP) w w' ∧ (RTabAt w' b aLb cLb aPb cPb ((tf hear1 (passT T t, []) l i).1)) ∧ (OwnSl w' 23 at1 ct1 ((tf hear1 (passT T t, []) l i).2)) ∧ (∀ q_, rtabS b aLb aPb q_ → ¬ own at1 q_) ∧ (∀ q_, rtabS b aLb aPb q_ → q_ < w.heap.size → (rtabS b aL aP) q_) ∧ (∀ q_, own at1 q_ → q_ < w.heap.size → (rtabS b aL aP) q_) ∧ (∀ q_, own at1 q_ → w.heap.size ≤ q_) ∧ (i ≤ l.length)) (fun i => l.length - i) 0 ?_ ?_
  · rw [tf_zero]
    have ho_18 := OwnSl.nil (α := Peer) w_5 23
    refine ⟨_, _, _, _, _, _, ⟨rfl, rfl, rfl, rfl, trivial⟩, K0, hR_6, ho_18, (fun q_ h1 h2 => (fun q_ h1 _ => own_none q_ h1) q_ h2 h1), pg_9, (fun q_ h1 _ => absurd h1 (own_none q_)), (fun q_ h1 => absurd h1 (own_none q_)), ?_⟩
    · omega
  clear hR_6
  clear K0
  rintro i ρ_19 w_10 ⟨aLb, cLb, aPb, cPb, at1, ct1, hH_11, K0, hO_12, ho_13, pr_14, pr_15, pr_16, pr_17, hi⟩ ih1
  obtain ⟨ρ₀, rfl⟩ := hH_11.ex
  clear hH_11
  refine Run.seq ?_
  refine Run.seq ?_
  obtain ⟨hok1, hln⟩ := hear_len (passT T t) l hok i (by omega)
  have hnv0 := hear_nev (passT T t) l hok hnv hsf i (by omega)
  have hnv1 : Nev (tf hear1 (passT T t, []) l i).1.self (tf hear1 (passT T t, []) l i).1 := by rw [hnv0.self]; exact hnv0
  have hkl := knownL_len (tf hear1 (passT T t, []) l i).1.l
  have hl8 := hok1.len
  refine Run.region ?_
  refine RL.val (x_moveI rfl) ?_
  refine RL.val (x_moveSl rfl) ?_
  refine RL.val (x_lenSl Try.underlying32 rfl) ?_
  refine RL.val (x_ltI rfl rfl) ?_
  refine RL.nil ?_
  refine Run.cond rfl (fun hc18 => ?_) (fun hc18 => ?_)
  · try simp only [br] at hc18
    refine Run.skip ?_
    refine Run.seq ?_
    refine Run.block ?_
    refine Run.seq ?_
    refine Run.region ?_
    refine RL.val (x_moveSl rfl) ?_
    refine RL.val (x_moveI rfl) ?_
    obtain ⟨b_20, o_21, p, hx, ha_22, hc_23⟩ := hl0.el (i := i) (by first | omega | (simp only [List.length_set]; omega))
    have hc_23_lt := hc_23.lt
    replace hc_23 := hc_23.keep K0 (hd0 _ ha_22 (ne_get hx))
    refine RL.val (x_idxN Try.underlying32 ty23 rfl rfl ha_22 (by first | omega | (simp only [List.length_set]; omega))) ?_
    refine RL.val (x_ldV (v := .agg #[.int .i64 ((p).node), .int .i64 ((p).inc), .int .i64 ((p).status)]) (y := p) ty23 rfl hc_23 rfl) ?_
    refine RL.st rfl <| St1.alloc ty23 ?_
    intro b_26 w_27 hl_30 hb_29 K_28
    replace hb_29 : Blk w_27 b_26 [.int .i64 (0), .int .i64 (0), .int .i64 (0)] 23 := hb_29
    have ne_31 : b_20 < b_26 := Nat.lt_of_lt_of_le hc_23.lt hl_30
    have pr_32 : ¬ rtabS b aLb aPb b_26 := fun h => absurd (hO_12.own_lt _ h) (by omega)
    have pr_33 : ¬ own at1 b_26 := fun h => absurd (ho_13.own_lt _ h) (by omega)
    have : w.heap.size ≤ b_26 := Nat.le_trans K0.size hl_30
    clear hl_30
    replace hO_12 := hO_12.ext K_28
    replace ho_13 := ho_13.ext K_28
    replace hc_23 := hc_23.ext K_28
    replace K0 := K0.ext K_28
    refine RL.st rfl <| St1.store (v := .agg #[.int .i64 ((p).node), .int .i64 ((p).inc), .int .i64 ((p).status)]) ty23 rfl rfl rfl (by simp [Value.cells, Value.oneCell']) hb_29 (by simp) ?_
    intro w_34 hb_29_ K_35
    have hb_29' : Blk w_34 b_26 [.int .i64 ((p).node), .int .i64 ((p).inc), .int .i64 ((p).status)] 23 := hb_29_
    clear hb_29_
    replace hO_12 := hO_12.keepO K_35 (fun q_ hq_ eq_ => pr_32 (by simp only [one] at eq_; rw [← eq_]; exact hq_))
    replace ho_13 := ho_13.keepO K_35 (fun q_ hq_ eq_ => pr_33 (by simp only [one] at eq_; rw [← eq_]; exact hq_))
    replace hc_23 := hc_23.keep K_35 (by simp only [one]; omega)
    replace K0 := K0.trans K_35 (fun x hlt hx => absurd hlt (by simp only [one] at hx; omega))
    replace hb_29 := hb_29'
    clear hb_29'
    refine RL.nil ?_
    refine Run.seq ?_
    refine Run.seq ?_
    refine Run.region ?_
    refine RL.val (x_lds (cs := #[.int .i64 ((p).node), .int .i64 ((p).inc), .int .i64 ((p).status)]) ty23 rfl rfl (hb_29.cl.drop 0 3)) ?_
    refine RL.st rfl <| St1.call (vals := [.agg #[.int .i64 ((p).node), .int .i64 ((p).inc), .int .i64 ((p).status)]]) en30 rfl (mayR_ p _) ?_
    rintro _ w_36 ⟨rfl, K_37⟩
    replace hO_12 := hO_12.ext K_37
    replace ho_13 := ho_13.ext K_37
    replace hb_29 := hb_29.ext K_37
    replace K0 := K0.ext K_37
    refine RL.val (x_not rfl) ?_
    refine RL.nil ?_
    refine Run.cond rfl (fun hc27 => ?_) (fun hc27 => ?_)
    · try simp only [br] at hc27
      refine Run.exit rfl ?_
      refine Run.region ?_
      refine RL.val (x_moveI rfl) ?_
      refine RL.val (litI (c := ((i + 1 : Nat) : Int)) (x_add rfl rfl (by omega) (by omega)) rfl) ?_
      refine RL.val (x_assignI rfl) ?_
      refine RL.nil ?_
      have e := (tf_succ (f := hear1) (s := (passT T t, [])) hx).trans (hear1_bad hc27)
      refine ih1 (i + 1) _ _ ?_ (by omega)
      rw [e]
      refine ⟨_, _, _, _, _, _, ⟨rfl, rfl, rfl, rfl, trivial⟩, K0, hO_12, ho_13, pr_14, pr_15, pr_16, pr_17, ?_⟩
      · omega
    · try simp only [br] at hc27
      obtain ⟨hpn, hpi, hpi2, hps, _⟩ := may_range hc27
      refine Run.skip ?_
      refine Run.seq ?_
      refine Run.region ?_
      refine RL.val (x_moveP rfl) ?_
      refine RL.val (x_fld (o' := 0) Try.underlying23 rfl ty3 rfl rfl rfl) ?_
      refine RL.val (x_ld (v := .int .i64 ((p).node)) ty3 rfl rfl (hb_29.cl.field (i := 0) rfl)) ?_
      refine RL.st rfl <| St1.call (vals := [.pointer (some ⟨b, 0, none⟩), .int .i64 ((p).node)]) en49 rfl (findR_ _ _ _ _ _ ((tf hear1 (passT T t, []) l i).1) ((p).node) _ hO_12.blk hO_12.ownL.sl hO_12.ownP.sl hO_12.ok) ?_
      rintro _ w_38 ⟨rfl, K_39⟩
      replace hO_12 := hO_12.ext K_39
      replace ho_13 := ho_13.ext K_39
      replace hb_29 := hb_29.ext K_39
      replace K0 := K0.ext K_39
      refine RL.val (x_assignI rfl) ?_
      refine RL.nil ?_
      refine Run.seq ?_
      obtain ⟨hb40, hoL40, hoP40, hapL40, hapP40, hapLP40, ok40, nv40⟩ := hO_12
      replace hb40 : Blk w_38 b [.int .i64 (((tf hear1 (passT T t, []) l i).1).self), .int .i64 (((tf hear1 (passT T t, []) l i).1).now), .slice (aLb) ((knownL ((tf hear1 (passT T t, []) l i).1).l).length) (cLb), .slice (aPb) (((tf hear1 (passT T t, []) l i).1).pings.length) (cPb), .int .i64 (((tf hear1 (passT T t, []) l i).1).req), .bool (((tf hear1 (passT T t, []) l i).1).begun), .int .i64 (((tf hear1 (passT T t, []) l i).1).last), .int .i64 (((tf hear1 (passT T t, []) l i).1).target)] 94 := hb40
      have ne_41 : b_26 ≠ b := fun e => pr_32 (.inl e)
      refine Run.draw' (m := 7) (by kernel_rfl) rfl ?_
      intro w_42 K_43
      replace ho_13 := ho_13.ext K_43
      replace hb_29 := hb_29.ext K_43
      replace hb40 := hb40.ext K_43
      replace hoL40 := hoL40.ext K_43
      replace hoP40 := hoP40.ext K_43
      replace K0 := K0.ext K_43
      refine RA.take (v := .pointer (some ⟨b_26, 0, none⟩)) 0 rfl (by kernel_rfl) rfl (by rintro _ rfl; exact (x_fld (o' := 0) Try.underlying23 rfl ty3 rfl rfl rfl)) ?_
      refine RA.take (v := .int .i64 ((p).node)) 1 rfl (by kernel_rfl) rfl (by rintro _ rfl; exact (x_ld (v := .int .i64 ((p).node)) ty3 rfl rfl (hb_29.cl.field (i := 0) rfl))) ?_
      refine RA.take (v := .pointer (some ⟨b, 0, none⟩)) 2 rfl (by kernel_rfl) rfl (by rintro _ rfl; exact (x_moveP rfl)) ?_
      refine RA.take (v := .pointer (some ⟨b, 0, none⟩)) 3 rfl (by kernel_rfl) rfl (by rintro _ rfl; exact (x_nilCheck rfl)) ?_
      refine RA.take (v := .pointer (some ⟨b, 0, none⟩)) 4 rfl (by kernel_rfl) rfl (by rintro _ rfl; exact (x_fld (o' := 0) Try.underlying94 rfl ty3 rfl rfl rfl)) ?_
      refine RA.take (v := .int .i64 (((tf hear1 (passT T t, []) l i).1).self)) 5 rfl (by kernel_rfl) rfl (by rintro _ rfl; exact (x_ld (v := .int .i64 (((tf hear1 (passT T t, []) l i).1).self)) ty3 rfl rfl (hb40.cl.field (i := 0) rfl))) ?_
      refine RA.take (v := .bool (((p).node) == (((tf hear1 (passT T t, []) l i).1).self))) 6 rfl (by kernel_rfl) rfl (by rintro _ rfl; exact (x_eqI rfl rfl)) ?_
      refine RA.done (by kernel_rfl) ?_
      refine Run.cond rfl (fun hc38 => ?_) (fun hc38 => ?_)
      · try simp only [br] at hc38
        obtain ⟨k, hs0, hs8, hk, hks, hfi⟩ := own_find hok1 hnv1
        rw [← hc38] at hfi hk hs0 hs8
        rw [hfi]
        have hkx := known_get hk (show k.peer.status ≠ 0 by omega)
        have hpl : posL (tf hear1 (passT T t, []) l i).1.l (p.node).toNat < (knownL (tf hear1 (passT T t, []) l i).1.l).length := (List.getElem?_eq_some_iff.1 hkx).1
        have hkk : (tf hear1 (passT T t, []) l i).1.l[((tf hear1 (passT T t, []) l i).1.self).toNat]? = some k := by rw [← hc38]; exact hk
        refine Run.seq ?_
        refine Run.region ?_
        refine RL.val (x_moveP rfl) ?_
        refine RL.val (x_nilCheck rfl) ?_
        refine RL.val (x_fld (o' := 2) Try.underlying94 rfl ty91 rfl rfl rfl) ?_
        refine RL.val (x_ld (v := .slice (aLb) ((knownL ((tf hear1 (passT T t, []) l i).1).l).length) (cLb)) ty91 rfl rfl (hb40.cl.field (i := 2) rfl)) ?_
        refine RL.val (x_moveI rfl) ?_
        obtain ⟨b_44, o_45, x_48, hx_49, ha_46, hc_47⟩ := hoL40.sl.el (i := posL (tf hear1 (passT T t, []) l i).1.l (p.node).toNat) (by first | omega | (simp only [List.length_set]; omega))
        obtain rfl : k = x_48 := Option.some.inj (hkx.symm.trans hx_49)
        refine RL.val (x_idxN Try.underlying91 ty90 rfl rfl ha_46 (by first | omega | (simp only [List.length_set]; omega))) ?_
        refine RL.val (x_fld (o' := o_45 + posL (tf hear1 (passT T t, []) l i).1.l (p.node).toNat * 4 + 0) Try.underlying90 rfl ty23 rfl rfl rfl) ?_
        refine RL.val (x_lds (cs := #[.int .i64 (((k).peer).node), .int .i64 (((k).peer).inc), .int .i64 (((k).peer).status)]) ty23 rfl rfl (hc_47.drop 0 3)) ?_
        refine RL.st rfl <| St1.alloc ty23 ?_
        intro b_50 w_51 hl_54 hb_53 K_52
        replace hb_53 : Blk w_51 b_50 [.int .i64 (0), .int .i64 (0), .int .i64 (0)] 23 := hb_53
        have ne_55 : b_26 < b_50 := Nat.lt_of_lt_of_le hb_29.lt hl_54
        have ne_56 : b < b_50 := Nat.lt_of_lt_of_le hb40.lt hl_54
        have ne_57 : b_44 < b_50 := Nat.lt_of_lt_of_le hc_47.lt hl_54
        have pr_58 : ¬ own at1 b_50 := fun h => absurd (ho_13.own_lt _ h) (by omega)
        have pr_59 : ¬ own aLb b_50 := fun h => absurd (hoL40.own_lt _ h) (by omega)
        have pr_60 : ¬ own aPb b_50 := fun h => absurd (hoP40.own_lt _ h) (by omega)
        have : w.heap.size ≤ b_50 := Nat.le_trans K0.size hl_54
        clear hl_54
        replace ho_13 := ho_13.ext K_52
        replace hb_29 := hb_29.ext K_52
        replace hb40 := hb40.ext K_52
        replace hoL40 := hoL40.ext K_52
        replace hoP40 := hoP40.ext K_52
        replace hc_47 := hc_47.ext K_52
        replace K0 := K0.ext K_52
        refine RL.st rfl <| St1.store (v := .agg #[.int .i64 (((k).peer).node), .int .i64 (((k).peer).inc), .int .i64 (((k).peer).status)]) ty23 rfl rfl rfl (by simp [Value.cells, Value.oneCell']) hb_53 (by simp) ?_
        intro w_61 hb_53_ K_62
        have hb_53' : Blk w_61 b_50 [.int .i64 (((k).peer).node), .int .i64 (((k).peer).inc), .int .i64 (((k).peer).status)] 23 := hb_53_
        clear hb_53_
        replace ho_13 := ho_13.keepO K_62 (fun q_ hq_ eq_ => pr_58 (by simp only [one] at eq_; rw [← eq_]; exact hq_))
        replace hb_29 := hb_29.keep K_62 (by simp only [one]; omega)
        replace hb40 := hb40.keep K_62 (by simp only [one]; omega)
        replace hoL40 := hoL40.keepO K_62 (fun q_ hq_ eq_ => pr_59 (by simp only [one] at eq_; rw [← eq_]; exact hq_))
        replace hoP40 := hoP40.keepO K_62 (fun q_ hq_ eq_ => pr_60 (by simp only [one] at eq_; rw [← eq_]; exact hq_))
        replace hc_47 := hc_47.keep K_62 (fun e => pr_59 (by simp only [one] at e; rw [← e]; exact (own_sub _) _ ha_46))
        replace K0 := K0.trans K_62 (fun x hlt hx => absurd hlt (by simp only [one] at hx; omega))
        replace hb_53 := hb_53'
        clear hb_53'
        refine RL.nil ?_
        refine Run.seq ?_
        refine Run.region ?_
        refine RL.val (x_fld (o' := 2) Try.underlying23 rfl ty3 rfl rfl rfl) ?_
        refine RL.val (x_ld (v := .int .i64 ((p).status)) ty3 rfl rfl (hb_29.cl.field (i := 2) rfl)) ?_
        refine RL.val (x_neI rfl rfl) ?_
        refine RL.val (x_moveB rfl) ?_
        refine RL.gval (wantedT rfl rfl rfl rfl) (fun hg => (x_fld (o' := 1) Try.underlying23 rfl ty3 rfl rfl rfl)) ?_
        refine RL.gval (wantedT rfl rfl rfl rfl) (fun hg => (x_ld (v := .int .i64 ((p).inc)) ty3 (gvr hg) rfl (hb_29.cl.field (i := 1) rfl))) ?_
        refine RL.gval (wantedT rfl rfl rfl rfl) (fun hg => (x_fld (o' := 1) Try.underlying23 rfl ty3 rfl rfl rfl)) ?_
        refine RL.gval (wantedT rfl rfl rfl rfl) (fun hg => (x_ld (v := .int .i64 (((k).peer).inc)) ty3 (gvr hg) rfl (hb_53.cl.field (i := 1) rfl))) ?_
        refine RL.gval (wantedT rfl rfl rfl rfl) (fun hg => (x_geI (gvr hg) (gvr hg))) ?_
        refine RL.val (x_and rfl rfl rfl) ?_
        refine RL.val (x_moveB rfl) ?_
        refine RL.gval (wantedT rfl rfl rfl rfl) (fun hg => (x_fld (o' := 1) Try.underlying23 rfl ty3 rfl rfl rfl)) ?_
        refine RL.gval (wantedT rfl rfl rfl rfl) (fun hg => (x_ld (v := .int .i64 ((p).inc)) ty3 (gvr hg) rfl (hb_29.cl.field (i := 1) rfl))) ?_
        refine RL.gval (wantedT rfl rfl rfl rfl) (fun hg => (x_ltI (gvr hg) rfl)) ?_
        refine RL.val (x_and rfl rfl rfl) ?_
        refine RL.nil ?_
        refine Run.cond rfl (fun hc61 => ?_) (fun hc61 => ?_)
        · try simp only [br] at hc61
          refine Run.seq ?_
          refine Run.region ?_
          refine RL.val (x_fld (o' := 1) Try.underlying23 rfl ty3 rfl rfl rfl) ?_
          refine RL.val (x_ld (v := .int .i64 ((p).inc)) ty3 rfl rfl (hb_29.cl.field (i := 1) rfl)) ?_
          refine RL.val (x_add rfl rfl (by omega) (by omega)) ?_
          refine RL.val (x_fld (o' := 1) Try.underlying23 rfl ty3 rfl rfl rfl) ?_
          refine RL.st rfl <| St1.store (v := .int .i64 (((p).inc) + 1)) ty3 rfl rfl rfl (by simp [Value.cells, Value.oneCell']) hb_53 (by simp) ?_
          intro w_63 hb_53_ K_64
          have hb_53' : Blk w_63 b_50 [.int .i64 (((k).peer).node), .int .i64 (((p).inc) + 1), .int .i64 (((k).peer).status)] 23 := hb_53_
          clear hb_53_
          replace ho_13 := ho_13.keepO K_64 (fun q_ hq_ eq_ => pr_58 (by simp only [one] at eq_; rw [← eq_]; exact hq_))
          replace hb_29 := hb_29.keep K_64 (by simp only [one]; omega)
          replace hb40 := hb40.keep K_64 (by simp only [one]; omega)
          replace hoL40 := hoL40.keepO K_64 (fun q_ hq_ eq_ => pr_59 (by simp only [one] at eq_; rw [← eq_]; exact hq_))
          replace hoP40 := hoP40.keepO K_64 (fun q_ hq_ eq_ => pr_60 (by simp only [one] at eq_; rw [← eq_]; exact hq_))
          replace K0 := K0.trans K_64 (fun x hlt hx => absurd hlt (by simp only [one] at hx; omega))
          replace hb_53 := hb_53'
          clear hb_53'
          refine RL.nil ?_
          refine Run.seq ?_
          obtain ⟨b_67, o_68, x_71, hx_72, ha_69, hc_70⟩ := hoL40.sl.el (i := posL (tf hear1 (passT T t, []) l i).1.l (p.node).toNat) (by first | omega | (simp only [List.length_set]; omega))
          obtain rfl : k = x_71 := Option.some.inj (hkx.symm.trans hx_72)
          refine Run.drawT [8] (m := 9) (by kernel_rfl) rfl ?_
          intro w_65 K_66
          replace ho_13 := ho_13.ext K_66
          replace hb_29 := hb_29.ext K_66
          replace hb40 := hb40.ext K_66
          replace hoL40 := hoL40.ext K_66
          replace hoP40 := hoP40.ext K_66
          replace hb_53 := hb_53.ext K_66
          replace hc_70 := hc_70.ext K_66
          replace K0 := K0.ext K_66
          refine ⟨fun w' => Blk w' b [.int .i64 (((tf hear1 (passT T t, []) l i).1).self), .int .i64 (((tf hear1 (passT T t, []) l i).1).now), .slice (aLb) ((knownL ((tf hear1 (passT T t, []) l i).1).l).length) (cLb), .slice (aPb) (((tf hear1 (passT T t, []) l i).1).pings.length) (cPb), .int .i64 (((tf hear1 (passT T t, []) l i).1).req), .bool (((tf hear1 (passT T t, []) l i).1).begun), .int .i64 (((tf hear1 (passT T t, []) l i).1).last), .int .i64 (((tf hear1 (passT T t, []) l i).1).target)] 94 ∧ Blk w' b_50 [.int .i64 (((k).peer).node), .int .i64 (((p).inc) + 1), .int .i64 (((k).peer).status)] 23 ∧ Cl w' b_67 (o_68 + posL (tf hear1 (passT T t, []) l i).1.l (p.node).toNat * 4) (cellsOf k) ∧ True, ?_⟩
          refine RT.takeP (v := .pointer (some ⟨b, 0, none⟩)) 0 rfl (by kernel_rfl) (.inr ⟨hb40, hb_53, hc_70, trivial⟩) (fun _ => (x_moveP rfl)) ?_
          refine RT.takeP (v := .pointer (some ⟨b, 0, none⟩)) 1 rfl (by kernel_rfl) (.inr ⟨hb40, hb_53, hc_70, trivial⟩) (fun _ => (x_nilCheck rfl)) ?_
          refine RT.takeP (v := .pointer (some ⟨b, 2, none⟩)) 2 rfl (by kernel_rfl) (.inr ⟨hb40, hb_53, hc_70, trivial⟩) (fun _ => (x_fld (o' := 2) Try.underlying94 rfl ty91 rfl rfl rfl)) ?_
          refine RT.take (v := .slice (aLb) ((knownL ((tf hear1 (passT T t, []) l i).1).l).length) (cLb)) 3 rfl (by kernel_rfl) ⟨hb40, hb_53, hc_70, trivial⟩ (by rintro _ ⟨hb40, hb_53, hc_70, -⟩; exact (x_ld (v := .slice (aLb) ((knownL ((tf hear1 (passT T t, []) l i).1).l).length) (cLb)) ty91 rfl rfl (hb40.cl.field (i := 2) rfl))) ?_
          refine RT.takeP (v := .int .i64 (((posL (tf hear1 (passT T t, []) l i).1.l (p.node).toNat : Nat) : Int))) 4 rfl (by kernel_rfl) (.inr ⟨hb40, hb_53, hc_70, trivial⟩) (fun _ => (x_moveI rfl)) ?_
          refine RT.take (v := .agg #[.int .i64 (((k).peer).node), .int .i64 (((p).inc) + 1), .int .i64 (((k).peer).status)]) 5 rfl (by kernel_rfl) ⟨hb40, hb_53, hc_70, trivial⟩ (by rintro _ ⟨hb40, hb_53, hc_70, -⟩; exact (x_lds (cs := #[.int .i64 (((k).peer).node), .int .i64 (((p).inc) + 1), .int .i64 (((k).peer).status)]) ty23 rfl rfl (hb_53.cl.drop 0 3))) ?_
          refine RT.takeP (v := .pointer (some ⟨b_67, o_68 + posL (tf hear1 (passT T t, []) l i).1.l (p.node).toNat * 4, none⟩)) 6 rfl (by kernel_rfl) (.inr ⟨hb40, hb_53, hc_70, trivial⟩) (fun _ => (x_idxN Try.underlying91 ty90 rfl rfl ha_69 (by first | omega | (simp only [List.length_set]; omega)))) ?_
          refine RT.takeP (v := .pointer (some ⟨b_67, o_68 + posL (tf hear1 (passT T t, []) l i).1.l (p.node).toNat * 4 + 0, none⟩)) 7 rfl (by kernel_rfl) (.inr ⟨hb40, hb_53, hc_70, trivial⟩) (fun _ => (x_fld (o' := o_68 + posL (tf hear1 (passT T t, []) l i).1.l (p.node).toNat * 4 + 0) Try.underlying90 rfl ty23 rfl rfl rfl)) ?_
          refine RT.st 8 rfl (by kernel_rfl) rfl <| St1.storeEl (v := .agg #[.int .i64 (((k).peer).node), .int .i64 (((p).inc) + 1), .int .i64 (((k).peer).status)]) (off := 0) (i := posL (tf hear1 (passT T t, []) l i).1.l (p.node).toNat) ({ k with peer := (⟨((k).peer).node, ((p).inc) + 1, ((k).peer).status⟩ : Peer) }) ty23 rfl rfl rfl (by simp [Value.cells, Value.oneCell']) hoL40 ha_69 hx_72 rfl (by decide) rfl ?_
          intro w_73 ho_75 K_74
          clear hc_70
          replace ho_13 := ho_13.keepO K_74 (fun q_ h1 h2 => (fun q_ h1 h2 => pr_14 q_ (.inr (.inl h1)) h2) q_ h2 h1)
          replace hb_29 := hb_29.keep K_74 (fun h1 => pr_32 (.inr (.inl h1)))
          replace hb40 := hb40.keep K_74 hapL40
          replace hoP40 := hoP40.keepO K_74 (fun q_ h1 h2 => hapLP40 q_ h2 h1)
          replace hb_53 := hb_53.keep K_74 pr_59
          replace K0 := K0.trans K_74 (fun x hlt hx => (fun q_ h1 hlt => pr_15 q_ (.inr (.inl h1)) hlt) x hx hlt)
          replace hoL40 := ho_75
          clear ho_75
          rw [show (knownL ((tf hear1 (passT T t, []) l i).1).l).length = ((knownL ((tf hear1 (passT T t, []) l i).1).l).set (posL (tf hear1 (passT T t, []) l i).1.l (p.node).toNat) ({ k with peer := (⟨((k).peer).node, ((p).inc) + 1, ((k).peer).status⟩ : Peer) })).length from (List.length_set ..).symm] at hb40
          refine ⟨.inl (by kernel_rfl), ?_⟩
          refine RT.done (by kernel_rfl) ?_
          refine Run.region ?_
          refine RL.val (x_moveSl rfl) ?_
          refine RL.val (x_lds (cs := #[.int .i64 (((k).peer).node), .int .i64 (((p).inc) + 1), .int .i64 (((k).peer).status)]) ty23 rfl rfl (hb_53.cl.drop 0 3)) ?_
          refine RL.st rfl <| St1.buildSlice ([(⟨((k).peer).node, ((p).inc) + 1, ((k).peer).status⟩ : Peer)] : List Peer) Try.underlying32 ty23 rfl rfl (by first | decide | (simp [Enc.size])) ?_
          intro b_76 w_77 hl_80 ho_79 K_78
          have pr_81 : ∀ q_, own (some ⟨b_76, 0, none⟩) q_ → ¬ own at1 q_ := apartNew (ge_new hl_80) ho_13.own_lt
          have pr_82 : ¬ own (some ⟨b_76, 0, none⟩) b_26 := notNew (ge_new hl_80) hb_29.lt
          have pr_83 : ¬ own (some ⟨b_76, 0, none⟩) b := notNew (ge_new hl_80) hb40.lt
          have pr_84 : ∀ q_, own (some ⟨b_76, 0, none⟩) q_ → ¬ own aLb q_ := apartNew (ge_new hl_80) hoL40.own_lt
          have pr_85 : ∀ q_, own (some ⟨b_76, 0, none⟩) q_ → ¬ own aPb q_ := apartNew (ge_new hl_80) hoP40.own_lt
          have pr_86 : ¬ own (some ⟨b_76, 0, none⟩) b_50 := notNew (ge_new hl_80) hb_53.lt
          have pg_87 : ∀ q_, own (some ⟨b_76, 0, none⟩) q_ → q_ < w.heap.size → (rtabS b aL aP) q_ := fun q_ h hlt => absurd (Nat.le_trans K0.size ((ge_new hl_80) q_ h)) (by omega)
          have pw_88 : ∀ q_, own (some ⟨b_76, 0, none⟩) q_ → w.heap.size ≤ q_ := fun q_ h => Nat.le_trans K0.size ((ge_new hl_80) q_ h)
          clear hl_80
          replace ho_13 := ho_13.ext K_78
          replace hb_29 := hb_29.ext K_78
          replace hb40 := hb40.ext K_78
          replace hoL40 := hoL40.ext K_78
          replace hoP40 := hoP40.ext K_78
          replace hb_53 := hb_53.ext K_78
          replace K0 := K0.ext K_78
          refine RL.st rfl <| St1.append (xs := (tf hear1 (passT T t, []) l i).2) (ys := ([(⟨((k).peer).node, ((p).inc) + 1, ((k).peer).status⟩ : Peer)] : List Peer)) Try.underlying32 ty23 rfl rfl rfl ho_13 ho_79.sl (by first | omega | (simp only [lr]; omega)) (by decide) ?_
          intro a_89 c_90 w_91 ho_92 K_93 hm_94 hrm_95
          have pr_96 : ¬ own a_89 b_26 := hm_94.not pr_33 hb_29.lt
          have pr_97 : ¬ own a_89 b := hm_94.not (fun h2 => pr_14 _ (.inl rfl) h2) hb40.lt
          have pr_98 : ∀ q_, own a_89 q_ → ¬ own aLb q_ := hm_94.apart (fun q_ h1 h2 => (fun q_ h1 h2 => pr_14 q_ (.inr (.inl h1)) h2) q_ h2 h1) hoL40.own_lt
          have pr_99 : ∀ q_, own a_89 q_ → ¬ own aPb q_ := hm_94.apart (fun q_ h1 h2 => (fun q_ h1 h2 => pr_14 q_ (.inr (.inr h1)) h2) q_ h2 h1) hoP40.own_lt
          have pr_100 : ¬ own a_89 b_50 := hm_94.not pr_58 hb_53.lt
          have pr_101 : ∀ q_, own a_89 q_ → ¬ own (some ⟨b_76, 0, none⟩) q_ := hm_94.apart (fun q_ h1 h2 => pr_81 q_ h2 h1) ho_79.own_lt
          have pg_102 : ∀ q_, own a_89 q_ → q_ < w.heap.size → (rtabS b aL aP) q_ := hm_94.inS pr_16 K0.size
          have pw_103 : ∀ q_, own a_89 q_ → w.heap.size ≤ q_ := hm_94.ge pr_17 K0.size
          replace hb_29 := hb_29.keep K_93 pr_33
          replace hb40 := hb40.keep K_93 (fun h2 => pr_14 _ (.inl rfl) h2)
          replace hoL40 := hoL40.keepO K_93 (fun q_ h1 h2 => pr_14 q_ (.inr (.inl h1)) h2)
          replace hoP40 := hoP40.keepO K_93 (fun q_ h1 h2 => pr_14 q_ (.inr (.inr h1)) h2)
          replace hb_53 := hb_53.keep K_93 pr_58
          replace ho_79 := ho_79.keepO K_93 pr_81
          replace K0 := K0.trans K_93 (fun x hlt hx => pr_16 x hx hlt)
          clear hm_94
          clear hrm_95
          refine RL.val (x_assignSl rfl) ?_
          refine RL.nil ?_
          refine Run.inBlock ?_
          refine Run.region ?_
          refine RL.val (x_moveI rfl) ?_
          refine RL.val (litI (c := ((i + 1 : Nat) : Int)) (x_add rfl rfl (by omega) (by omega)) rfl) ?_
          refine RL.val (x_assignI rfl) ?_
          refine RL.nil ?_
          have eo := own_more hkk hc61.1.1 ⟨hc61.1.2, hc61.2⟩
          have eL_105 : (knownL ((tf hear1 (passT T t, []) l i).1).l).set (posL (tf hear1 (passT T t, []) l i).1.l (p.node).toNat) ({ k with peer := (⟨((k).peer).node, ((p).inc) + 1, ((k).peer).status⟩ : Peer) }) = knownL ({ (tf hear1 (passT T t, []) l i).1 with l := (tf hear1 (passT T t, []) l i).1.l.set ((tf hear1 (passT T t, []) l i).1.self).toNat { k with peer := { k.peer with inc := p.inc + 1 } } }).l := (by simp only; rw [← hc38]; exact known_set hk (show k.peer.status ≠ 0 by omega) (show k.peer.status ≠ 0 by omega))
          rw [eL_105] at hb40 hoL40
          have hR_104 : RTabAt w_91 b aLb cLb aPb cPb ({ (tf hear1 (passT T t, []) l i).1 with l := (tf hear1 (passT T t, []) l i).1.l.set ((tf hear1 (passT T t, []) l i).1.self).toNat { k with peer := { k.peer with inc := p.inc + 1 } } }) := ⟨hb40, hoL40, hoP40, hapL40, hapP40, hapLP40, (by have h_ := (ownT_ok (p := p) hok1).1; rw [eo] at h_; exact h_), (by have h_ := (nev_ownT (p := p) hok1 hnv1).1; rw [eo] at h_; exact h_)⟩
          have pt_106 : ¬ rtabS b aLb aPb b_26 := (fun h1 => h1.elim (fun e => absurd e (by omega)) (fun h1 => h1.elim (fun h => (fun h1 => pr_32 (.inr (.inl h1))) h) (fun h => (fun h1 => pr_32 (.inr (.inr h1))) h)))
          have pt_107 : ¬ rtabS b aLb aPb b_50 := (fun h1 => h1.elim (fun e => absurd e (by omega)) (fun h1 => h1.elim (fun h => pr_59 h) (fun h => pr_60 h)))
          have pt_108 : ∀ q_, rtabS b aLb aPb q_ → ¬ own (some ⟨b_76, 0, none⟩) q_ := (fun q_ h1 h2 => h1.elim (fun e => pr_83 (e ▸ h2)) (fun h1 => h1.elim (fun h => (fun q_ h1 h2 => pr_84 q_ h2 h1) q_ h h2) (fun h => (fun q_ h1 h2 => pr_85 q_ h2 h1) q_ h h2)))
          have pt_109 : ∀ q_, rtabS b aLb aPb q_ → ¬ own a_89 q_ := (fun q_ h1 h2 => h1.elim (fun e => pr_97 (e ▸ h2)) (fun h1 => h1.elim (fun h => (fun q_ h1 h2 => pr_98 q_ h2 h1) q_ h h2) (fun h => (fun q_ h1 h2 => pr_99 q_ h2 h1) q_ h h2)))
          have pt_110 : ∀ q_, rtabS b aLb aPb q_ → q_ < w.heap.size → (rtabS b aL aP) q_ := (fun q_ h1 hlt => h1.elim (fun e => e ▸ (Or.inl rfl)) (fun h1 => h1.elim (fun h => (fun q_ h1 hlt => pr_15 q_ (.inr (.inl h1)) hlt) q_ h hlt) (fun h => (fun q_ h1 hlt => pr_15 q_ (.inr (.inr h1)) hlt) q_ h hlt)))
          clear hb40 hoL40 hoP40
          have e := (tf_succ (f := hear1) (s := (passT T t, [])) hx).trans (hear1_own hc27 hc38)
          rw [eo] at e
          dsimp only at e
          refine ih1 (i + 1) _ _ ?_ (by omega)
          rw [e]
          refine ⟨_, _, _, _, _, _, ⟨rfl, rfl, rfl, rfl, trivial⟩, K0, hR_104, ho_92, pt_109, pt_110, pg_102, pw_103, ?_⟩
          · omega
        · try simp only [br] at hc61
          refine Run.seq ?_
          refine Run.region ?_
          refine RL.val (x_fld (o' := 2) Try.underlying23 rfl ty3 rfl rfl rfl) ?_
          refine RL.val (x_ld (v := .int .i64 ((p).status)) ty3 rfl rfl (hb_29.cl.field (i := 2) rfl)) ?_
          refine RL.val (x_eqI rfl rfl) ?_
          refine RL.val (x_moveB rfl) ?_
          refine RL.gval (wantedT rfl rfl rfl rfl) (fun hg => (x_fld (o' := 1) Try.underlying23 rfl ty3 rfl rfl rfl)) ?_
          refine RL.gval (wantedT rfl rfl rfl rfl) (fun hg => (x_ld (v := .int .i64 ((p).inc)) ty3 (gvr hg) rfl (hb_29.cl.field (i := 1) rfl))) ?_
          refine RL.gval (wantedT rfl rfl rfl rfl) (fun hg => (x_fld (o' := 1) Try.underlying23 rfl ty3 rfl rfl rfl)) ?_
          refine RL.gval (wantedT rfl rfl rfl rfl) (fun hg => (x_ld (v := .int .i64 (((k).peer).inc)) ty3 (gvr hg) rfl (hb_53.cl.field (i := 1) rfl))) ?_
          refine RL.gval (wantedT rfl rfl rfl rfl) (fun hg => (x_gtI (gvr hg) (gvr hg))) ?_
          refine RL.val (x_and rfl rfl rfl) ?_
          refine RL.nil ?_
          refine Run.cond rfl (fun hc87 => ?_) (fun hc87 => ?_)
          · try simp only [br] at hc87
            obtain ⟨b_113, o_114, x_117, hx_118, ha_115, hc_116⟩ := hoL40.sl.el (i := posL (tf hear1 (passT T t, []) l i).1.l (p.node).toNat) (by first | omega | (simp only [List.length_set]; omega))
            obtain rfl : k = x_117 := Option.some.inj (hkx.symm.trans hx_118)
            refine Run.drawT [10] (m := 11) (by kernel_rfl) rfl ?_
            intro w_111 K_112
            replace ho_13 := ho_13.ext K_112
            replace hb_29 := hb_29.ext K_112
            replace hb40 := hb40.ext K_112
            replace hoL40 := hoL40.ext K_112
            replace hoP40 := hoP40.ext K_112
            replace hb_53 := hb_53.ext K_112
            replace hc_116 := hc_116.ext K_112
            replace K0 := K0.ext K_112
            refine ⟨fun w' => Blk w' b_26 [.int .i64 ((p).node), .int .i64 ((p).inc), .int .i64 ((p).status)] 23 ∧ Blk w' b [.int .i64 (((tf hear1 (passT T t, []) l i).1).self), .int .i64 (((tf hear1 (passT T t, []) l i).1).now), .slice (aLb) ((knownL ((tf hear1 (passT T t, []) l i).1).l).length) (cLb), .slice (aPb) (((tf hear1 (passT T t, []) l i).1).pings.length) (cPb), .int .i64 (((tf hear1 (passT T t, []) l i).1).req), .bool (((tf hear1 (passT T t, []) l i).1).begun), .int .i64 (((tf hear1 (passT T t, []) l i).1).last), .int .i64 (((tf hear1 (passT T t, []) l i).1).target)] 94 ∧ Cl w' b_113 (o_114 + posL (tf hear1 (passT T t, []) l i).1.l (p.node).toNat * 4) (cellsOf k) ∧ True, ?_⟩
            refine RT.takeP (v := .pointer (some ⟨b, 0, none⟩)) 0 rfl (by kernel_rfl) (.inr ⟨hb_29, hb40, hc_116, trivial⟩) (fun _ => (x_moveP rfl)) ?_
            refine RT.takeP (v := .pointer (some ⟨b, 0, none⟩)) 1 rfl (by kernel_rfl) (.inr ⟨hb_29, hb40, hc_116, trivial⟩) (fun _ => (x_nilCheck rfl)) ?_
            refine RT.takeP (v := .pointer (some ⟨b, 2, none⟩)) 2 rfl (by kernel_rfl) (.inr ⟨hb_29, hb40, hc_116, trivial⟩) (fun _ => (x_fld (o' := 2) Try.underlying94 rfl ty91 rfl rfl rfl)) ?_
            refine RT.take (v := .slice (aLb) ((knownL ((tf hear1 (passT T t, []) l i).1).l).length) (cLb)) 3 rfl (by kernel_rfl) ⟨hb_29, hb40, hc_116, trivial⟩ (by rintro _ ⟨hb_29, hb40, hc_116, -⟩; exact (x_ld (v := .slice (aLb) ((knownL ((tf hear1 (passT T t, []) l i).1).l).length) (cLb)) ty91 rfl rfl (hb40.cl.field (i := 2) rfl))) ?_
            refine RT.takeP (v := .int .i64 (((posL (tf hear1 (passT T t, []) l i).1.l (p.node).toNat : Nat) : Int))) 4 rfl (by kernel_rfl) (.inr ⟨hb_29, hb40, hc_116, trivial⟩) (fun _ => (x_moveI rfl)) ?_
            refine RT.takeP (v := .pointer (some ⟨b_26, 1, none⟩)) 5 rfl (by kernel_rfl) (.inr ⟨hb_29, hb40, hc_116, trivial⟩) (fun _ => (x_fld (o' := 1) Try.underlying23 rfl ty3 rfl rfl rfl)) ?_
            refine RT.take (v := .int .i64 ((p).inc)) 6 rfl (by kernel_rfl) ⟨hb_29, hb40, hc_116, trivial⟩ (by rintro _ ⟨hb_29, hb40, hc_116, -⟩; exact (x_ld (v := .int .i64 ((p).inc)) ty3 rfl rfl (hb_29.cl.field (i := 1) rfl))) ?_
            refine RT.takeP (v := .pointer (some ⟨b_113, o_114 + posL (tf hear1 (passT T t, []) l i).1.l (p.node).toNat * 4, none⟩)) 7 rfl (by kernel_rfl) (.inr ⟨hb_29, hb40, hc_116, trivial⟩) (fun _ => (x_idxN Try.underlying91 ty90 rfl rfl ha_115 (by first | omega | (simp only [List.length_set]; omega)))) ?_
            refine RT.takeP (v := .pointer (some ⟨b_113, o_114 + posL (tf hear1 (passT T t, []) l i).1.l (p.node).toNat * 4 + 0, none⟩)) 8 rfl (by kernel_rfl) (.inr ⟨hb_29, hb40, hc_116, trivial⟩) (fun _ => (x_fld (o' := o_114 + posL (tf hear1 (passT T t, []) l i).1.l (p.node).toNat * 4 + 0) Try.underlying90 rfl ty23 rfl rfl rfl)) ?_
            refine RT.takeP (v := .pointer (some ⟨b_113, o_114 + posL (tf hear1 (passT T t, []) l i).1.l (p.node).toNat * 4 + 0 + 1, none⟩)) 9 rfl (by kernel_rfl) (.inr ⟨hb_29, hb40, hc_116, trivial⟩) (fun _ => (x_fld (o' := o_114 + posL (tf hear1 (passT T t, []) l i).1.l (p.node).toNat * 4 + 0 + 1) Try.underlying23 rfl ty3 rfl rfl rfl)) ?_
            refine RT.st 10 rfl (by kernel_rfl) rfl <| St1.storeEl (v := .int .i64 ((p).inc)) (off := 1) (i := posL (tf hear1 (passT T t, []) l i).1.l (p.node).toNat) ({ k with peer.inc := (p).inc }) ty3 rfl rfl rfl (by simp [Value.cells, Value.oneCell']) hoL40 ha_115 hx_118 rfl (by decide) rfl ?_
            intro w_119 ho_121 K_120
            clear hc_116
            replace ho_13 := ho_13.keepO K_120 (fun q_ h1 h2 => (fun q_ h1 h2 => pr_14 q_ (.inr (.inl h1)) h2) q_ h2 h1)
            replace hb_29 := hb_29.keep K_120 (fun h1 => pr_32 (.inr (.inl h1)))
            replace hb40 := hb40.keep K_120 hapL40
            replace hoP40 := hoP40.keepO K_120 (fun q_ h1 h2 => hapLP40 q_ h2 h1)
            replace hb_53 := hb_53.keep K_120 pr_59
            replace K0 := K0.trans K_120 (fun x hlt hx => (fun q_ h1 hlt => pr_15 q_ (.inr (.inl h1)) hlt) x hx hlt)
            replace hoL40 := ho_121
            clear ho_121
            rw [show (knownL ((tf hear1 (passT T t, []) l i).1).l).length = ((knownL ((tf hear1 (passT T t, []) l i).1).l).set (posL (tf hear1 (passT T t, []) l i).1.l (p.node).toNat) ({ k with peer.inc := (p).inc })).length from (List.length_set ..).symm] at hb40
            refine ⟨.inl (by kernel_rfl), ?_⟩
            refine RT.done (by kernel_rfl) ?_
            refine Run.inBlock ?_
            refine Run.region ?_
            refine RL.val (x_moveI rfl) ?_
            refine RL.val (litI (c := ((i + 1 : Nat) : Int)) (x_add rfl rfl (by omega) (by omega)) rfl) ?_
            refine RL.val (x_assignI rfl) ?_
            refine RL.nil ?_
            have eo := own_alive hkk hc87.1
            rw [show max k.peer.inc p.inc = p.inc by omega] at eo
            have eL_123 : (knownL ((tf hear1 (passT T t, []) l i).1).l).set (posL (tf hear1 (passT T t, []) l i).1.l (p.node).toNat) ({ k with peer.inc := (p).inc }) = knownL ({ (tf hear1 (passT T t, []) l i).1 with l := (tf hear1 (passT T t, []) l i).1.l.set ((tf hear1 (passT T t, []) l i).1.self).toNat { k with peer := { k.peer with inc := p.inc } } }).l := (by simp only; rw [← hc38]; exact known_set hk (show k.peer.status ≠ 0 by omega) (show k.peer.status ≠ 0 by omega))
            rw [eL_123] at hb40 hoL40
            have hR_122 : RTabAt w_119 b aLb cLb aPb cPb ({ (tf hear1 (passT T t, []) l i).1 with l := (tf hear1 (passT T t, []) l i).1.l.set ((tf hear1 (passT T t, []) l i).1.self).toNat { k with peer := { k.peer with inc := p.inc } } }) := ⟨hb40, hoL40, hoP40, hapL40, hapP40, hapLP40, (by have h_ := (ownT_ok (p := p) hok1).1; rw [eo] at h_; exact h_), (by have h_ := (nev_ownT (p := p) hok1 hnv1).1; rw [eo] at h_; exact h_)⟩
            have pt_124 : ∀ q_, rtabS b aLb aPb q_ → ¬ own at1 q_ := (fun q_ h1 h2 => h1.elim (fun e => (fun h2 => pr_14 _ (.inl rfl) h2) (e ▸ h2)) (fun h1 => h1.elim (fun h => (fun q_ h1 h2 => pr_14 q_ (.inr (.inl h1)) h2) q_ h h2) (fun h => (fun q_ h1 h2 => pr_14 q_ (.inr (.inr h1)) h2) q_ h h2)))
            have pt_125 : ¬ rtabS b aLb aPb b_26 := (fun h1 => h1.elim (fun e => absurd e (by omega)) (fun h1 => h1.elim (fun h => (fun h1 => pr_32 (.inr (.inl h1))) h) (fun h => (fun h1 => pr_32 (.inr (.inr h1))) h)))
            have pt_126 : ¬ rtabS b aLb aPb b_50 := (fun h1 => h1.elim (fun e => absurd e (by omega)) (fun h1 => h1.elim (fun h => pr_59 h) (fun h => pr_60 h)))
            have pt_127 : ∀ q_, rtabS b aLb aPb q_ → q_ < w.heap.size → (rtabS b aL aP) q_ := (fun q_ h1 hlt => h1.elim (fun e => e ▸ (Or.inl rfl)) (fun h1 => h1.elim (fun h => (fun q_ h1 hlt => pr_15 q_ (.inr (.inl h1)) hlt) q_ h hlt) (fun h => (fun q_ h1 hlt => pr_15 q_ (.inr (.inr h1)) hlt) q_ h hlt)))
            clear hb40 hoL40 hoP40
            have e := (tf_succ (f := hear1) (s := (passT T t, [])) hx).trans (hear1_own hc27 hc38)
            rw [eo] at e
            dsimp only at e
            rw [List.append_nil] at e
            refine ih1 (i + 1) _ _ ?_ (by omega)
            rw [e]
            refine ⟨_, _, _, _, _, _, ⟨rfl, rfl, rfl, rfl, trivial⟩, K0, hR_122, ho_13, pt_124, pt_127, pr_16, pr_17, ?_⟩
            · omega
          · try simp only [br] at hc87
            refine Run.skip ?_
            refine Run.inBlock ?_
            refine Run.region ?_
            refine RL.val (x_moveI rfl) ?_
            refine RL.val (litI (c := ((i + 1 : Nat) : Int)) (x_add rfl rfl (by omega) (by omega)) rfl) ?_
            refine RL.val (x_assignI rfl) ?_
            refine RL.nil ?_
            have eo : (ownT (tf hear1 (passT T t, []) l i).1 p).1 = (tf hear1 (passT T t, []) l i).1 ∧ (ownT (tf hear1 (passT T t, []) l i).1 p).2 = [] := by
              by_cases h1 : p.status = 1
              · rw [own_alive hkk h1, show max k.peer.inc p.inc = k.peer.inc by omega]
                refine ⟨?_, rfl⟩
                simp only
                rw [set_same hkk]
              · rw [own_no hkk h1 (by omega)]; exact ⟨rfl, rfl⟩
            have hR_128 : RTabAt w_61 b aLb cLb aPb cPb ((tf hear1 (passT T t, []) l i).1) := ⟨hb40, hoL40, hoP40, hapL40, hapP40, hapLP40, ok40, nv40⟩
            have pt_129 : ∀ q_, rtabS b aLb aPb q_ → ¬ own at1 q_ := (fun q_ h1 h2 => h1.elim (fun e => (fun h2 => pr_14 _ (.inl rfl) h2) (e ▸ h2)) (fun h1 => h1.elim (fun h => (fun q_ h1 h2 => pr_14 q_ (.inr (.inl h1)) h2) q_ h h2) (fun h => (fun q_ h1 h2 => pr_14 q_ (.inr (.inr h1)) h2) q_ h h2)))
            have pt_130 : ¬ rtabS b aLb aPb b_26 := (fun h1 => h1.elim (fun e => absurd e (by omega)) (fun h1 => h1.elim (fun h => (fun h1 => pr_32 (.inr (.inl h1))) h) (fun h => (fun h1 => pr_32 (.inr (.inr h1))) h)))
            have pt_131 : ¬ rtabS b aLb aPb b_50 := (fun h1 => h1.elim (fun e => absurd e (by omega)) (fun h1 => h1.elim (fun h => pr_59 h) (fun h => pr_60 h)))
            have pt_132 : ∀ q_, rtabS b aLb aPb q_ → q_ < w.heap.size → (rtabS b aL aP) q_ := (fun q_ h1 hlt => h1.elim (fun e => e ▸ (Or.inl rfl)) (fun h1 => h1.elim (fun h => (fun q_ h1 hlt => pr_15 q_ (.inr (.inl h1)) hlt) q_ h hlt) (fun h => (fun q_ h1 hlt => pr_15 q_ (.inr (.inr h1)) hlt) q_ h hlt)))
            clear hb40 hoL40 hoP40
            have e := (tf_succ (f := hear1) (s := (passT T t, [])) hx).trans (hear1_own hc27 hc38)
            rw [eo.1, eo.2, List.append_nil] at e
            refine ih1 (i + 1) _ _ ?_ (by omega)
            rw [e]
            refine ⟨_, _, _, _, _, _, ⟨rfl, rfl, rfl, rfl, trivial⟩, K0, hR_128, ho_13, pt_129, pt_132, pr_16, pr_17, ?_⟩
            · omega
      · try simp only [br] at hc38
        refine Run.seq ?_
        by_cases hfd : findI (fun x : KnownM => x.peer.node == ((p).node)) (knownL ((tf hear1 (passT T t, []) l i).1).l) < 0
        · obtain ⟨k, hk, hks⟩ := find_neg hok1 hpn hfd
          refine Run.drawT [] (m := 14) (by kernel_rfl) rfl ?_
          intro w_133 K_134
          replace ho_13 := ho_13.ext K_134
          replace hb_29 := hb_29.ext K_134
          replace hb40 := hb40.ext K_134
          replace hoL40 := hoL40.ext K_134
          replace hoP40 := hoP40.ext K_134
          replace K0 := K0.ext K_134
          refine ⟨fun w' => True, ?_⟩
          refine RT.takeP (v := .int .i64 (findI (fun x : KnownM => x.peer.node == ((p).node)) (knownL ((tf hear1 (passT T t, []) l i).1).l))) 0 rfl (by kernel_rfl) (.inr trivial) (fun _ => (x_moveI rfl)) ?_
          refine RT.takeP (v := .bool (true)) 1 rfl (by kernel_rfl) (.inr trivial) (fun _ => (litT (x_ltI rfl rfl) (decide_eq_true hfd))) ?_
          refine RT.takeP (v := .bool (true)) 2 rfl (by kernel_rfl) (.inr trivial) (fun _ => (x_moveB rfl)) ?_
          refine RT.gtakeP (v := undef) 3 rfl (by kernel_rfl) (.inr trivial) (wantedF0 rfl rfl rfl rfl) (fun hg => by cases hg) ?_
          refine RT.gtakeP (v := undef) 4 rfl (by kernel_rfl) (.inr trivial) (wantedF0 rfl rfl rfl rfl) (fun hg => by cases hg) ?_
          refine RT.gtakeP (v := undef) 5 rfl (by kernel_rfl) (.inr trivial) (wantedF0 rfl rfl rfl rfl) (fun hg => by cases hg) ?_
          refine RT.gtakeP (v := undef) 6 rfl (by kernel_rfl) (.inr trivial) (wantedF0 rfl rfl rfl rfl) (fun hg => by cases hg) ?_
          refine RT.gtakeP (v := undef) 7 rfl (by kernel_rfl) (.inr trivial) (wantedF0 rfl rfl rfl rfl) (fun hg => by cases hg) ?_
          refine RT.gtakeP (v := undef) 8 rfl (by kernel_rfl) (.inr trivial) (wantedF0 rfl rfl rfl rfl) (fun hg => by cases hg) ?_
          refine RT.gtakeP (v := undef) 9 rfl (by kernel_rfl) (.inr trivial) (wantedF0 rfl rfl rfl rfl) (fun hg => by cases hg) ?_
          refine RT.gtakeP (v := undef) 10 rfl (by kernel_rfl) (.inr trivial) (wantedF0 rfl rfl rfl rfl) (fun hg => by cases hg) ?_
          refine RT.gtakeP (v := undef) 11 rfl (by kernel_rfl) (.inr trivial) (wantedF0 rfl rfl rfl rfl) (fun hg => by cases hg) ?_
          refine RT.gT 12 rfl (by kernel_rfl) (wantedF0 rfl rfl rfl rfl) (.inr trivial) ?_
          refine RT.takeP (v := .bool (true)) 13 rfl (by kernel_rfl) (.inr trivial) (fun _ => (x_or (b := true) (e := false) rfl rfl rfl)) ?_
          refine RT.done (by kernel_rfl) ?_
          refine Run.condT rfl ?_
          refine Run.seq ?_
          refine Run.region ?_
          refine RL.val (x_moveP rfl) ?_
          refine RL.val (x_lds (cs := #[.int .i64 ((p).node), .int .i64 ((p).inc), .int .i64 ((p).status)]) ty23 rfl rfl (hb_29.cl.drop 0 3)) ?_
          have hR_135 : RTabAt w_133 b aLb cLb aPb cPb ((tf hear1 (passT T t, []) l i).1) := ⟨hb40, hoL40, hoP40, hapL40, hapP40, hapLP40, ok40, nv40⟩
          have pt_136 : ∀ q_, rtabS b aLb aPb q_ → ¬ own at1 q_ := (fun q_ h1 h2 => h1.elim (fun e => (fun h2 => pr_14 _ (.inl rfl) h2) (e ▸ h2)) (fun h1 => h1.elim (fun h => (fun q_ h1 h2 => pr_14 q_ (.inr (.inl h1)) h2) q_ h h2) (fun h => (fun q_ h1 h2 => pr_14 q_ (.inr (.inr h1)) h2) q_ h h2)))
          have pt_137 : ¬ rtabS b aLb aPb b_26 := (fun h1 => h1.elim (fun e => absurd e (by omega)) (fun h1 => h1.elim (fun h => (fun h1 => pr_32 (.inr (.inl h1))) h) (fun h => (fun h1 => pr_32 (.inr (.inr h1))) h)))
          have pt_138 : ∀ q_, rtabS b aLb aPb q_ → q_ < w.heap.size → (rtabS b aL aP) q_ := (fun q_ h1 hlt => h1.elim (fun e => e ▸ (Or.inl rfl)) (fun h1 => h1.elim (fun h => (fun q_ h1 hlt => pr_15 q_ (.inr (.inl h1)) hlt) q_ h hlt) (fun h => (fun q_ h1 hlt => pr_15 q_ (.inr (.inr h1)) hlt) q_ h hlt)))
          clear hb40 hoL40 hoP40
          refine RL.st rfl <| St1.call (vals := [.pointer (some ⟨b, 0, none⟩), .agg #[.int .i64 ((p).node), .int .i64 ((p).inc), .int .i64 ((p).status)]]) en50 rfl (learnR_ _ _ _ _ _ ((tf hear1 (passT T t, []) l i).1) p _ hR_135 (by first | omega | (simp only; omega)) (by first | omega | (simp only; omega)) (by first | exact hc38 | omega)) ?_
          rintro _ w_143 ⟨aL_139, cL_140, aP_141, cP_142, rfl, hR_144, hm_145, K_146⟩
          have pr_147 : ∀ q_, rtabS b aL_139 aP_141 q_ → ¬ own at1 q_ := hm_145.apart pt_136 ho_13.own_lt
          have pr_148 : ¬ rtabS b aL_139 aP_141 b_26 := hm_145.not pt_137 hb_29.lt
          have pg_149 : ∀ q_, rtabS b aL_139 aP_141 q_ → q_ < w.heap.size → (rtabS b aL aP) q_ := hm_145.inS pt_138 K0.size
          replace ho_13 := ho_13.keepO K_146 (fun q_ h1 h2 => pt_136 q_ h2 h1)
          replace hb_29 := hb_29.keep K_146 pt_137
          replace K0 := K0.trans K_146 (fun x hlt hx => pt_138 x hx hlt)
          clear hm_145 
          refine RL.nil ?_
          refine Run.region ?_
          refine RL.val (x_moveSl rfl) ?_
          refine RL.val (x_lds (cs := #[.int .i64 ((p).node), .int .i64 ((p).inc), .int .i64 ((p).status)]) ty23 rfl rfl (hb_29.cl.drop 0 3)) ?_
          refine RL.st rfl <| St1.buildSlice ([p] : List Peer) Try.underlying32 ty23 rfl rfl (by first | decide | (simp [Enc.size])) ?_
          intro b_150 w_151 hl_154 ho_153 K_152
          have pr_155 : ∀ q_, own (some ⟨b_150, 0, none⟩) q_ → ¬ own at1 q_ := apartNew (ge_new hl_154) ho_13.own_lt
          have pr_156 : ¬ own (some ⟨b_150, 0, none⟩) b_26 := notNew (ge_new hl_154) hb_29.lt
          have pr_157 : ∀ q_, own (some ⟨b_150, 0, none⟩) q_ → ¬ rtabS b aL_139 aP_141 q_ := apartNew (ge_new hl_154) hR_144.own_lt
          have pg_158 : ∀ q_, own (some ⟨b_150, 0, none⟩) q_ → q_ < w.heap.size → (rtabS b aL aP) q_ := fun q_ h hlt => absurd (Nat.le_trans K0.size ((ge_new hl_154) q_ h)) (by omega)
          have pw_159 : ∀ q_, own (some ⟨b_150, 0, none⟩) q_ → w.heap.size ≤ q_ := fun q_ h => Nat.le_trans K0.size ((ge_new hl_154) q_ h)
          clear hl_154
          replace ho_13 := ho_13.ext K_152
          replace hb_29 := hb_29.ext K_152
          replace hR_144 := hR_144.ext K_152
          replace K0 := K0.ext K_152
          refine RL.st rfl <| St1.append (xs := (tf hear1 (passT T t, []) l i).2) (ys := ([p] : List Peer)) Try.underlying32 ty23 rfl rfl rfl ho_13 ho_153.sl (by first | omega | (simp only [lr]; omega)) (by decide) ?_
          intro a_160 c_161 w_162 ho_163 K_164 hm_165 hrm_166
          have pr_167 : ¬ own a_160 b_26 := hm_165.not pr_33 hb_29.lt
          have pr_168 : ∀ q_, own a_160 q_ → ¬ rtabS b aL_139 aP_141 q_ := hm_165.apart (fun q_ h1 h2 => pr_147 q_ h2 h1) hR_144.own_lt
          have pr_169 : ∀ q_, own a_160 q_ → ¬ own (some ⟨b_150, 0, none⟩) q_ := hm_165.apart (fun q_ h1 h2 => pr_155 q_ h2 h1) ho_153.own_lt
          have pg_170 : ∀ q_, own a_160 q_ → q_ < w.heap.size → (rtabS b aL aP) q_ := hm_165.inS pr_16 K0.size
          have pw_171 : ∀ q_, own a_160 q_ → w.heap.size ≤ q_ := hm_165.ge pr_17 K0.size
          replace hb_29 := hb_29.keep K_164 pr_33
          replace hR_144 := hR_144.keepO K_164 pr_147
          replace ho_153 := ho_153.keepO K_164 pr_155
          replace K0 := K0.trans K_164 (fun x hlt hx => pr_16 x hx hlt)
          clear hm_165
          clear hrm_166
          refine RL.val (x_assignSl rfl) ?_
          refine RL.nil ?_
          refine Run.inBlock ?_
          refine Run.region ?_
          refine RL.val (x_moveI rfl) ?_
          refine RL.val (litI (c := ((i + 1 : Nat) : Int)) (x_add rfl rfl (by omega) (by omega)) rfl) ?_
          refine RL.val (x_assignI rfl) ?_
          refine RL.nil ?_
          have e := (tf_succ (f := hear1) (s := (passT T t, [])) hx).trans (hear1_new hc27 hc38 hk (.inl hks))
          refine ih1 (i + 1) _ _ ?_ (by omega)
          rw [e]
          refine ⟨_, _, _, _, _, _, ⟨rfl, rfl, rfl, rfl, trivial⟩, K0, hR_144, ho_163, (fun q_ h1 h2 => pr_168 q_ h2 h1), pg_149, pg_170, pw_171, ?_⟩
          · omega
        · obtain ⟨k, _, _, hk, hks, hfi, _⟩ := (statusL_find hok1 (p).node).resolve_left (fun h => absurd h.1 hfd)
          rw [hfi]
          have hkx := known_get hk hks
          have hpl : posL (tf hear1 (passT T t, []) l i).1.l (p.node).toNat < (knownL (tf hear1 (passT T t, []) l i).1.l).length := (List.getElem?_eq_some_iff.1 hkx).1
          obtain ⟨b_174, o_175, x_178, hx_179, ha_176, hc_177⟩ := hoL40.sl.el (i := posL (tf hear1 (passT T t, []) l i).1.l ((p).node).toNat) (by first | omega | (simp only [List.length_set]; omega))
          obtain rfl : k = x_178 := Option.some.inj (hkx.symm.trans hx_179)
          refine Run.drawT [] (m := 14) (by kernel_rfl) rfl ?_
          intro w_172 K_173
          replace ho_13 := ho_13.ext K_173
          replace hb_29 := hb_29.ext K_173
          replace hb40 := hb40.ext K_173
          replace hoL40 := hoL40.ext K_173
          replace hoP40 := hoP40.ext K_173
          replace hc_177 := hc_177.ext K_173
          replace K0 := K0.ext K_173
          refine ⟨fun w' => Blk w' b_26 [.int .i64 ((p).node), .int .i64 ((p).inc), .int .i64 ((p).status)] 23 ∧ Blk w' b [.int .i64 (((tf hear1 (passT T t, []) l i).1).self), .int .i64 (((tf hear1 (passT T t, []) l i).1).now), .slice (aLb) ((knownL ((tf hear1 (passT T t, []) l i).1).l).length) (cLb), .slice (aPb) (((tf hear1 (passT T t, []) l i).1).pings.length) (cPb), .int .i64 (((tf hear1 (passT T t, []) l i).1).req), .bool (((tf hear1 (passT T t, []) l i).1).begun), .int .i64 (((tf hear1 (passT T t, []) l i).1).last), .int .i64 (((tf hear1 (passT T t, []) l i).1).target)] 94 ∧ Cl w' b_174 (o_175 + posL (tf hear1 (passT T t, []) l i).1.l ((p).node).toNat * 4) (cellsOf k) ∧ True, ?_⟩
          refine RT.takeP (v := .int .i64 (((posL (tf hear1 (passT T t, []) l i).1.l ((p).node).toNat : Nat) : Int))) 0 rfl (by kernel_rfl) (.inr ⟨hb_29, hb40, hc_177, trivial⟩) (fun _ => (x_moveI rfl)) ?_
          refine RT.takeP (v := .bool (false)) 1 rfl (by kernel_rfl) (.inr ⟨hb_29, hb40, hc_177, trivial⟩) (fun _ => (litF (x_ltI rfl rfl) (decide_eq_false (by omega)))) ?_
          refine RT.takeP (v := .bool (false)) 2 rfl (by kernel_rfl) (.inr ⟨hb_29, hb40, hc_177, trivial⟩) (fun _ => (x_moveB rfl)) ?_
          refine RT.gtake (v := .agg #[.int .i64 ((p).node), .int .i64 ((p).inc), .int .i64 ((p).status)]) 3 rfl (by kernel_rfl) ⟨hb_29, hb40, hc_177, trivial⟩ (wantedF1 rfl rfl rfl rfl) (fun hg => by rintro _ ⟨hb_29, hb40, hc_177, -⟩; exact (x_lds (cs := #[.int .i64 ((p).node), .int .i64 ((p).inc), .int .i64 ((p).status)]) ty23 rfl rfl (hb_29.cl.drop 0 3))) ?_
          refine RT.gtakeP (v := .pointer (some ⟨b, 0, none⟩)) 4 rfl (by kernel_rfl) (.inr ⟨hb_29, hb40, hc_177, trivial⟩) (wantedF1 rfl rfl rfl rfl) (fun hg _ => (x_moveP rfl)) ?_
          refine RT.gtakeP (v := .pointer (some ⟨b, 0, none⟩)) 5 rfl (by kernel_rfl) (.inr ⟨hb_29, hb40, hc_177, trivial⟩) (wantedF1 rfl rfl rfl rfl) (fun hg _ => (x_nilCheck rfl)) ?_
          refine RT.gtakeP (v := .pointer (some ⟨b, 2, none⟩)) 6 rfl (by kernel_rfl) (.inr ⟨hb_29, hb40, hc_177, trivial⟩) (wantedF1 rfl rfl rfl rfl) (fun hg _ => (x_fld (o' := 2) Try.underlying94 rfl ty91 rfl rfl rfl)) ?_
          refine RT.gtake (v := .slice (aLb) ((knownL ((tf hear1 (passT T t, []) l i).1).l).length) (cLb)) 7 rfl (by kernel_rfl) ⟨hb_29, hb40, hc_177, trivial⟩ (wantedF1 rfl rfl rfl rfl) (fun hg => by rintro _ ⟨hb_29, hb40, hc_177, -⟩; exact (x_ld (v := .slice (aLb) ((knownL ((tf hear1 (passT T t, []) l i).1).l).length) (cLb)) ty91 rfl rfl (hb40.cl.field (i := 2) rfl))) ?_
          refine RT.gtakeP (v := .int .i64 (((posL (tf hear1 (passT T t, []) l i).1.l ((p).node).toNat : Nat) : Int))) 8 rfl (by kernel_rfl) (.inr ⟨hb_29, hb40, hc_177, trivial⟩) (wantedF1 rfl rfl rfl rfl) (fun hg _ => (x_moveI rfl)) ?_
          refine RT.gtakeP (v := .pointer (some ⟨b_174, o_175 + posL (tf hear1 (passT T t, []) l i).1.l ((p).node).toNat * 4, none⟩)) 9 rfl (by kernel_rfl) (.inr ⟨hb_29, hb40, hc_177, trivial⟩) (wantedF1 rfl rfl rfl rfl) (fun hg _ => (x_idxN Try.underlying91 ty90 rfl rfl ha_176 (by first | omega | (simp only [List.length_set]; omega)))) ?_
          refine RT.gtakeP (v := .pointer (some ⟨b_174, o_175 + posL (tf hear1 (passT T t, []) l i).1.l ((p).node).toNat * 4 + 0, none⟩)) 10 rfl (by kernel_rfl) (.inr ⟨hb_29, hb40, hc_177, trivial⟩) (wantedF1 rfl rfl rfl rfl) (fun hg _ => (x_fld (o' := o_175 + posL (tf hear1 (passT T t, []) l i).1.l ((p).node).toNat * 4 + 0) Try.underlying90 rfl ty23 rfl rfl rfl)) ?_
          refine RT.gtake (v := .agg #[.int .i64 (((k).peer).node), .int .i64 (((k).peer).inc), .int .i64 (((k).peer).status)]) 11 rfl (by kernel_rfl) ⟨hb_29, hb40, hc_177, trivial⟩ (wantedF1 rfl rfl rfl rfl) (fun hg => by rintro _ ⟨hb_29, hb40, hc_177, -⟩; exact (x_lds (cs := #[.int .i64 (((k).peer).node), .int .i64 (((k).peer).inc), .int .i64 (((k).peer).status)]) ty23 rfl rfl (hc_177.drop 0 3))) ?_
          refine RT.gst 12 rfl (by kernel_rfl) (wantedF1 rfl rfl rfl rfl) <| St1.call (vals := [.agg #[.int .i64 ((p).node), .int .i64 ((p).inc), .int .i64 ((p).status)], .agg #[.int .i64 (((k).peer).node), .int .i64 (((k).peer).inc), .int .i64 (((k).peer).status)]]) en12 rfl (greaterR_ p ((k).peer) _) ?_
          rintro _ w_180 ⟨rfl, K_181⟩
          replace ho_13 := ho_13.ext K_181
          replace hb_29 := hb_29.ext K_181
          replace hb40 := hb40.ext K_181
          replace hoL40 := hoL40.ext K_181
          replace hoP40 := hoP40.ext K_181
          replace hc_177 := hc_177.ext K_181
          replace K0 := K0.ext K_181
          refine ⟨.inr ⟨hb_29, hb40, hc_177, trivial⟩, ?_⟩
          refine RT.takeP (v := .bool (greaterB p ((k).peer))) 13 rfl (by kernel_rfl) (.inr ⟨hb_29, hb40, hc_177, trivial⟩) (fun _ => (x_orF rfl rfl rfl)) ?_
          refine RT.done (by kernel_rfl) ?_
          refine Run.cond rfl (fun hc111 => ?_) (fun hc111 => ?_)
          · skip
            refine Run.seq ?_
            refine Run.region ?_
            refine RL.val (x_moveP rfl) ?_
            refine RL.val (x_lds (cs := #[.int .i64 ((p).node), .int .i64 ((p).inc), .int .i64 ((p).status)]) ty23 rfl rfl (hb_29.cl.drop 0 3)) ?_
            have hR_182 : RTabAt w_180 b aLb cLb aPb cPb ((tf hear1 (passT T t, []) l i).1) := ⟨hb40, hoL40, hoP40, hapL40, hapP40, hapLP40, ok40, nv40⟩
            have pt_183 : ∀ q_, rtabS b aLb aPb q_ → ¬ own at1 q_ := (fun q_ h1 h2 => h1.elim (fun e => (fun h2 => pr_14 _ (.inl rfl) h2) (e ▸ h2)) (fun h1 => h1.elim (fun h => (fun q_ h1 h2 => pr_14 q_ (.inr (.inl h1)) h2) q_ h h2) (fun h => (fun q_ h1 h2 => pr_14 q_ (.inr (.inr h1)) h2) q_ h h2)))
            have pt_184 : ¬ rtabS b aLb aPb b_26 := (fun h1 => h1.elim (fun e => absurd e (by omega)) (fun h1 => h1.elim (fun h => (fun h1 => pr_32 (.inr (.inl h1))) h) (fun h => (fun h1 => pr_32 (.inr (.inr h1))) h)))
            have pt_185 : ∀ q_, rtabS b aLb aPb q_ → q_ < w.heap.size → (rtabS b aL aP) q_ := (fun q_ h1 hlt => h1.elim (fun e => e ▸ (Or.inl rfl)) (fun h1 => h1.elim (fun h => (fun q_ h1 hlt => pr_15 q_ (.inr (.inl h1)) hlt) q_ h hlt) (fun h => (fun q_ h1 hlt => pr_15 q_ (.inr (.inr h1)) hlt) q_ h hlt)))
            clear hb40 hoL40 hoP40
            refine RL.st rfl <| St1.call (vals := [.pointer (some ⟨b, 0, none⟩), .agg #[.int .i64 ((p).node), .int .i64 ((p).inc), .int .i64 ((p).status)]]) en50 rfl (learnR_ _ _ _ _ _ ((tf hear1 (passT T t, []) l i).1) p _ hR_182 (by first | omega | (simp only; omega)) (by first | omega | (simp only; omega)) (by first | exact hc38 | omega)) ?_
            rintro _ w_190 ⟨aL_186, cL_187, aP_188, cP_189, rfl, hR_191, hm_192, K_193⟩
            have pr_194 : ∀ q_, rtabS b aL_186 aP_188 q_ → ¬ own at1 q_ := hm_192.apart pt_183 ho_13.own_lt
            have pr_195 : ¬ rtabS b aL_186 aP_188 b_26 := hm_192.not pt_184 hb_29.lt
            have pg_196 : ∀ q_, rtabS b aL_186 aP_188 q_ → q_ < w.heap.size → (rtabS b aL aP) q_ := hm_192.inS pt_185 K0.size
            replace ho_13 := ho_13.keepO K_193 (fun q_ h1 h2 => pt_183 q_ h2 h1)
            replace hb_29 := hb_29.keep K_193 pt_184
            replace K0 := K0.trans K_193 (fun x hlt hx => pt_185 x hx hlt)
            clear hm_192 
            refine RL.nil ?_
            refine Run.region ?_
            refine RL.val (x_moveSl rfl) ?_
            refine RL.val (x_lds (cs := #[.int .i64 ((p).node), .int .i64 ((p).inc), .int .i64 ((p).status)]) ty23 rfl rfl (hb_29.cl.drop 0 3)) ?_
            refine RL.st rfl <| St1.buildSlice ([p] : List Peer) Try.underlying32 ty23 rfl rfl (by first | decide | (simp [Enc.size])) ?_
            intro b_197 w_198 hl_201 ho_200 K_199
            have pr_202 : ∀ q_, own (some ⟨b_197, 0, none⟩) q_ → ¬ own at1 q_ := apartNew (ge_new hl_201) ho_13.own_lt
            have pr_203 : ¬ own (some ⟨b_197, 0, none⟩) b_26 := notNew (ge_new hl_201) hb_29.lt
            have pr_204 : ∀ q_, own (some ⟨b_197, 0, none⟩) q_ → ¬ rtabS b aL_186 aP_188 q_ := apartNew (ge_new hl_201) hR_191.own_lt
            have pg_205 : ∀ q_, own (some ⟨b_197, 0, none⟩) q_ → q_ < w.heap.size → (rtabS b aL aP) q_ := fun q_ h hlt => absurd (Nat.le_trans K0.size ((ge_new hl_201) q_ h)) (by omega)
            have pw_206 : ∀ q_, own (some ⟨b_197, 0, none⟩) q_ → w.heap.size ≤ q_ := fun q_ h => Nat.le_trans K0.size ((ge_new hl_201) q_ h)
            clear hl_201
            replace ho_13 := ho_13.ext K_199
            replace hb_29 := hb_29.ext K_199
            replace hR_191 := hR_191.ext K_199
            replace K0 := K0.ext K_199
            refine RL.st rfl <| St1.append (xs := (tf hear1 (passT T t, []) l i).2) (ys := ([p] : List Peer)) Try.underlying32 ty23 rfl rfl rfl ho_13 ho_200.sl (by first | omega | (simp only [lr]; omega)) (by decide) ?_
            intro a_207 c_208 w_209 ho_210 K_211 hm_212 hrm_213
            have pr_214 : ¬ own a_207 b_26 := hm_212.not pr_33 hb_29.lt
            have pr_215 : ∀ q_, own a_207 q_ → ¬ rtabS b aL_186 aP_188 q_ := hm_212.apart (fun q_ h1 h2 => pr_194 q_ h2 h1) hR_191.own_lt
            have pr_216 : ∀ q_, own a_207 q_ → ¬ own (some ⟨b_197, 0, none⟩) q_ := hm_212.apart (fun q_ h1 h2 => pr_202 q_ h2 h1) ho_200.own_lt
            have pg_217 : ∀ q_, own a_207 q_ → q_ < w.heap.size → (rtabS b aL aP) q_ := hm_212.inS pr_16 K0.size
            have pw_218 : ∀ q_, own a_207 q_ → w.heap.size ≤ q_ := hm_212.ge pr_17 K0.size
            replace hb_29 := hb_29.keep K_211 pr_33
            replace hR_191 := hR_191.keepO K_211 pr_194
            replace ho_200 := ho_200.keepO K_211 pr_202
            replace K0 := K0.trans K_211 (fun x hlt hx => pr_16 x hx hlt)
            clear hm_212
            clear hrm_213
            refine RL.val (x_assignSl rfl) ?_
            refine RL.nil ?_
            refine Run.inBlock ?_
            refine Run.region ?_
            refine RL.val (x_moveI rfl) ?_
            refine RL.val (litI (c := ((i + 1 : Nat) : Int)) (x_add rfl rfl (by omega) (by omega)) rfl) ?_
            refine RL.val (x_assignI rfl) ?_
            refine RL.nil ?_
            have e := (tf_succ (f := hear1) (s := (passT T t, [])) hx).trans (hear1_new hc27 hc38 hk (.inr hc111))
            refine ih1 (i + 1) _ _ ?_ (by omega)
            rw [e]
            refine ⟨_, _, _, _, _, _, ⟨rfl, rfl, rfl, rfl, trivial⟩, K0, hR_191, ho_210, (fun q_ h1 h2 => pr_215 q_ h2 h1), pg_196, pg_217, pw_218, ?_⟩
            · omega
          · skip
            refine Run.skip ?_
            refine Run.inBlock ?_
            refine Run.region ?_
            refine RL.val (x_moveI rfl) ?_
            refine RL.val (litI (c := ((i + 1 : Nat) : Int)) (x_add rfl rfl (by omega) (by omega)) rfl) ?_
            refine RL.val (x_assignI rfl) ?_
            refine RL.nil ?_
            have hR_219 : RTabAt w_180 b aLb cLb aPb cPb ((tf hear1 (passT T t, []) l i).1) := ⟨hb40, hoL40, hoP40, hapL40, hapP40, hapLP40, ok40, nv40⟩
            have pt_220 : ∀ q_, rtabS b aLb aPb q_ → ¬ own at1 q_ := (fun q_ h1 h2 => h1.elim (fun e => (fun h2 => pr_14 _ (.inl rfl) h2) (e ▸ h2)) (fun h1 => h1.elim (fun h => (fun q_ h1 h2 => pr_14 q_ (.inr (.inl h1)) h2) q_ h h2) (fun h => (fun q_ h1 h2 => pr_14 q_ (.inr (.inr h1)) h2) q_ h h2)))
            have pt_221 : ¬ rtabS b aLb aPb b_26 := (fun h1 => h1.elim (fun e => absurd e (by omega)) (fun h1 => h1.elim (fun h => (fun h1 => pr_32 (.inr (.inl h1))) h) (fun h => (fun h1 => pr_32 (.inr (.inr h1))) h)))
            have pt_222 : ∀ q_, rtabS b aLb aPb q_ → q_ < w.heap.size → (rtabS b aL aP) q_ := (fun q_ h1 hlt => h1.elim (fun e => e ▸ (Or.inl rfl)) (fun h1 => h1.elim (fun h => (fun q_ h1 hlt => pr_15 q_ (.inr (.inl h1)) hlt) q_ h hlt) (fun h => (fun q_ h1 hlt => pr_15 q_ (.inr (.inr h1)) hlt) q_ h hlt)))
            clear hb40 hoL40 hoP40
            have e := (tf_succ (f := hear1) (s := (passT T t, [])) hx).trans (hear1_same hc27 hc38 hk (fun h => h.elim hks (fun h => by rw [hc111] at h; cases h)))
            refine ih1 (i + 1) _ _ ?_ (by omega)
            rw [e]
            refine ⟨_, _, _, _, _, _, ⟨rfl, rfl, rfl, rfl, trivial⟩, K0, hR_219, ho_13, pt_220, pt_222, pr_16, pr_17, ?_⟩
            · omega
  · try simp only [br] at hc18
    refine Run.exit rfl ?_
    refine Run.seq ?_
    refine Run.region ?_
    refine RL.val (x_moveSl rfl) ?_
    refine RL.val (x_assignSl rfl) ?_
    refine RL.nil ?_
    refine Run.ret1 (v := .slice (at1) (((tf hear1 (passT T t, []) l i).2).length) (ct1)) Try.func33 rfl rfl ?_
    have hil : i = l.length := by omega
    subst hil
    exact ⟨_, rfl, aLb, cLb, aPb, cPb, at1, ct1, rfl, hO_12, ho_13, pr_17, (fun q_ h1 h2 => pr_14 q_ h2 h1), rtabMoved' (fun x hx hlt => pr_15 x (.inr (.inl hx)) hlt) (fun x hx hlt => pr_15 x (.inr (.inr hx)) hlt), K0⟩

end Go.Proofs.Ytagfdmdajmkddaa
