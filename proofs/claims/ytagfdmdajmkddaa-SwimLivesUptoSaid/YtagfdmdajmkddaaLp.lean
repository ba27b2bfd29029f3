/-
  The reference's table: old, target, waited.
-/
import Derived.Test.YtagfdmdajmkddaaRows
import Derived.Test.YtagfdmdajmkddaaLo
namespace Go.Proofs.Ytagfdmdajmkddaa
attribute [local irreducible] St1 RL RA RT RT1 Run

open Sa
def goneI (T : Tab) (i : Nat) : List Peer := (((knownL T.l).take i).filter (isOld T.now)).map gone
theorem goneI_zero (T : Tab) : goneI T 0 = [] := by simp [goneI]
theorem goneI_len (T : Tab) (i : Nat) : (goneI T i).length ≤ i := gone_len T i
theorem goneI_yes {T : Tab} {i : Nat} {x : KnownM} (hx : (knownL T.l)[i]? = some x) (h : x.peer.status = 2 ∧ 300 ≤ T.now - x.since) : goneI T (i + 1) = goneI T i ++ [{ x.peer with status := 3 }] := by
  have := gone_snoc hx
  rw [if_pos (show isOld T.now x = true by simpa [isOld] using h)] at this
  exact this
theorem goneI_no {T : Tab} {i : Nat} {x : KnownM} (hx : (knownL T.l)[i]? = some x) (h : ¬ (x.peer.status = 2 ∧ 300 ≤ T.now - x.since)) : goneI T (i + 1) = goneI T i := by
  have := gone_snoc hx
  rw [if_neg (show ¬ isOld T.now x = true by simpa [isOld] using h), List.append_nil] at this
  exact this
theorem mixO_yes {T : Tab} {i : Nat} {x y : KnownM} (hx : (knownL T.l)[i]? = some x) (h : x.peer.status = 2 ∧ 300 ≤ T.now - x.since) : mixO T (i + 1) = ((mixO T i).set i y).set i ⟨{ x.peer with status := 3 }, T.now⟩ := by
  rw [List.set_set, ← mixO_set hx, oldF, if_pos h]
theorem mixO_no {T : Tab} {i : Nat} {x : KnownM} (hx : (knownL T.l)[i]? = some x) (h : ¬ (x.peer.status = 2 ∧ 300 ≤ T.now - x.since)) : mixO T (i + 1) = mixO T i := mixO_same hx (by rw [oldF, if_neg h])
theorem mixO_all {T : Tab} : mixO T (knownL T.l).length = knownL (T.l.map (oldF T.now)) := by
  rw [known_old, mixO, List.take_length, List.drop_length, List.append_nil]
theorem goneI_all {T : Tab} (ok : TabOk T) : (oldT T).2 = goneI T (knownL T.l).length := by
  rw [(old_all ok).2.1, goneI, List.take_length]
theorem known_facts {T : Tab} (ok : TabOk T) {x : KnownM} (hx : x ∈ knownL T.l) : 0 ≤ x.since ∧ x.since ≤ T.now ∧ 0 ≤ x.peer.node ∧ x.peer.node < 8 ∧ x.peer.status ≠ 0 := by
  obtain ⟨m, hm, hs⟩ := mem_known hx
  have h := ok.known m x hm
  have hl := (List.getElem?_eq_some_iff.1 hm).1
  have := ok.len
  have h2 := h.2.2 hs
  exact ⟨by omega, by omega, by omega, by omega, hs⟩
/-! ### loops over all nodes, and over those that are known -/
theorem rf_known {σ : Type} {T : Tab} (ok : TabOk T) {f : σ → Nat → σ} {h : σ → KnownM → σ} (hno : ∀ s n k, T.l[n]? = some k → k.peer.status = 0 → f s n = s) (hyes : ∀ s n k, T.l[n]? = some k → k.peer.status ≠ 0 → f s n = h s k) (s : σ) : rf f s 8 = tf h s (knownL T.l) (knownL T.l).length := by
  have key : ∀ i, i ≤ 8 → rf f s i = (knownL (T.l.take i)).foldl h s := by
    intro i
    induction i with
    | zero => intro _; rfl
    | succ i ih =>
      intro hi
      have hl := ok.len
      have hlt : i < T.l.length := by omega
      have hk : T.l[i]? = some T.l[i] := by simp
      rw [rf_succ, ih (by omega), List.take_succ_eq_append_getElem hlt, knownL_append, List.foldl_append]
      by_cases h0 : T.l[i].peer.status = 0
      · rw [hno _ _ _ hk h0, known_no h0]; rfl
      · rw [hyes _ _ _ hk h0, known_yes h0]; rfl
  rw [key 8 (Nat.le_refl _), tf, List.take_length, List.take_of_length_le (by have := ok.len; omega)]
def othR (T : Tab) (tg : Int) (s : List Int) (k : KnownM) : List Int := if ((s.length < 2 ∧ k.peer.node ≠ T.self) ∧ k.peer.node ≠ tg) ∧ k.peer.status = 1 then s ++ [k.peer.node] else s
theorem othR_yes {T : Tab} {tg : Int} {s : List Int} {k : KnownM} (h : ((s.length < 2 ∧ k.peer.node ≠ T.self) ∧ k.peer.node ≠ tg) ∧ k.peer.status = 1) : othR T tg s k = s ++ [k.peer.node] := if_pos h
theorem othR_no {T : Tab} {tg : Int} {s : List Int} {k : KnownM} (h : ¬ (((s.length < 2 ∧ k.peer.node ≠ T.self) ∧ k.peer.node ≠ tg) ∧ k.peer.status = 1)) : othR T tg s k = s := if_neg h
theorem othR_all {T : Tab} (ok : TabOk T) (tg : Int) : othersT T tg = tf (othR T tg) [] (knownL T.l) (knownL T.l).length := by
  refine rf_known ok ?_ ?_ []
  · intro s n k hk h0
    exact oth1_no hk (by omega)
  · intro s n k hk h0
    have hn := (ok.known n k hk).2.2 h0
    by_cases hc : ((s.length < 2 ∧ k.peer.node ≠ T.self) ∧ k.peer.node ≠ tg) ∧ k.peer.status = 1
    · rw [oth1_yes hk (by omega), othR_yes hc, hn]
    · rw [oth1_no hk (by omega), othR_no hc]
theorem othR_len (T : Tab) (tg : Int) (l : List KnownM) : ∀ i, i ≤ l.length → (tf (othR T tg) [] l i).length ≤ 2 := by
  refine tf_ind (fun _ (s : List Int) => s.length ≤ 2) (by simp) ?_
  intro i k s _ h
  unfold othR
  split
  · simp only [List.length_append, List.length_singleton]; omega
  · exact h
def nxtR (T : Tab) (s : Int × Int) (k : KnownM) : Int × Int :=
  if k.peer.node = T.self ∨ T.pings.any (fun p => p.target == k.peer.node) = true then s
  else (if s.1 < 0 then k.peer.node else s.1, if s.2 < 0 ∧ T.target < k.peer.node then k.peer.node else s.2)
theorem nxtR_skip {T : Tab} {s : Int × Int} {k : KnownM} (h : k.peer.node = T.self ∨ T.pings.any (fun p => p.target == k.peer.node) = true) : nxtR T s k = s := if_pos h
theorem nxtR_go {T : Tab} {s : Int × Int} {k : KnownM} (h : ¬ k.peer.node = T.self ∧ T.pings.any (fun p => p.target == k.peer.node) = false) : nxtR T s k = (if s.1 < 0 then k.peer.node else s.1, if s.2 < 0 ∧ T.target < k.peer.node then k.peer.node else s.2) := if_neg (by rintro (e | e); exact h.1 e; rw [h.2] at e; cases e)
theorem nxtR_all {T : Tab} (ok : TabOk T) : nextT T = (let s := tf (nxtR T) (-1, -1) (knownL T.l) (knownL T.l).length; if 0 ≤ s.2 then s.2 else s.1) := by
  unfold nextT
  rw [rf_known ok (h := nxtR T) ?_ ?_ (-1, -1)]
  · intro s n k hk h0
    exact nxt1_skip hk (.inl (.inr h0))
  · intro s n k hk h0
    have hn := (ok.known n k hk).2.2 h0
    by_cases hc : k.peer.node = T.self ∨ T.pings.any (fun p => p.target == k.peer.node) = true
    · rw [nxtR_skip hc, nxt1_skip hk]
      rcases hc with e | e
      · exact .inl (.inl (by omega))
      · exact .inr (by rw [← hn]; exact e)
    · have hc' : ¬ k.peer.node = T.self ∧ T.pings.any (fun p => p.target == k.peer.node) = false := ⟨fun e => hc (.inl e), by cases h : T.pings.any (fun p => p.target == k.peer.node); rfl; exact absurd (.inr h) hc⟩
      rw [nxtR_go hc', nxt1_go hk ⟨⟨by omega, h0⟩, by rw [← hn]; exact hc'.2⟩, hn]
theorem any_take {l : List Ping} {j : Nat} {y : Ping} (h : l[j]? = some y) (f : Ping → Bool) : (l.take (j + 1)).any f = ((l.take j).any f || f y) := by
  obtain ⟨hj, rfl⟩ := List.getElem?_eq_some_iff.1 h
  rw [List.take_succ_eq_append_getElem hj, List.any_append]; simp
theorem asks_one {T : Tab} {p : Ping} {l : List Int} {n : Int} : asks T p (l ++ [n]) = asks T p l ++ [mkMsg 6 T.self n p.req p.target (-1)] := by rw [asks, List.map_append]; rfl
theorem wai_nev {n : Int} {T : Tab} (ok : TabOk T) (h : Nev n T) : ∀ i, i ≤ T.pings.length → Nev n (waiI T i).T := by
  have key : ∀ i, i ≤ T.pings.length → (fun (_ : Nat) (s : Wai) => TabOk s.T ∧ Nev n s.T) i (waiI T i) := by
    refine tf_ind (fun (_ : Nat) (s : Wai) => TabOk s.T ∧ Nev n s.T) ⟨ok, h⟩ ?_
    intro i x s hx ⟨hok, hN⟩
    have hp := ok.pings x (mem_of_at hx)
    have hf := h.far x (mem_of_at hx)
    by_cases c1 : s.T.now - x.since < 50
    · rw [wai1_left c1]; exact ⟨hok, hN⟩
    · cases c2 : x.others with
      | false => rw [wai1_ask c1 c2]; exact ⟨hok, hN⟩
      | true =>
        obtain ⟨k, hk⟩ : ∃ k, s.T.l[x.target.toNat]? = some k := ⟨_, List.getElem?_eq_getElem (by have := hok.len; omega)⟩
        by_cases c3 : k.peer.status = 1
        · rw [wai1_sus c1 c2 hk c3]
          have hkn := (hok.known _ k hk).2.2 (by omega)
          have hn0 : 0 ≤ n := by have := hok.self0; rw [hN.self] at this; exact this.1
          exact ⟨learnT_ok hok (by simp only; omega), hN.self, by simp only [learnT]; exact own_set hN.own (by omega), hN.far⟩
        · rw [wai1_no c1 c2 hk c3]; exact ⟨hok, hN⟩
  exact fun i hi => (key i hi).2

theorem ty92 : Ty Try.prog 92 1 24 (.slice (none) (0) (0)) false := ty_of (by kernel_rfl) (by kernel_rfl)
theorem ty98 : Ty Try.prog 98 4 32 (.agg #[.int .i64 (0), .int .i64 (0), .int .i64 (0), .bool (false)]) true := ty_of (by kernel_rfl) (by kernel_rfl)

set_option maxRecDepth 100000 in
set_option maxHeartbeats 4000000 in
theorem oldR_ (b : Nat) (aL : Option Addr) (cL : Nat) (aP : Option Addr) (cP : Nat) (T : Tab)  (w : World) (hR : RTabAt w b aL cL aP cP T) :
    Calls Try.prog 51 #[.pointer (some ⟨b, 0, none⟩)] w (Ret (fun v w' => ∃ aL' cL' aP' cP' a0 c0, v = .slice a0 (oldT T).2.length c0 ∧ RTabAt w' b aL' cL' aP' cP' ((oldT T).1) ∧ OwnSl w' 23 a0 c0 ((oldT T).2) ∧ (∀ x, own a0 x → w.heap.size ≤ x) ∧ (∀ x, own a0 x → ¬ rtabS b aL' aP' x) ∧ MovedS w (rtabS b aL aP) (rtabS b aL' aP') ∧ Keeps (rtabS b aL aP) w w')) := by
  obtain ⟨hb, hoL, hoP, hapL, hapP, hapLP, ok, nv⟩ := hR
  have hkl := knownL_len T.l
  have hl8 := ok.len
  refine calls_run (n := 71) Try.func51 rfl rfl rfl ?_
  refine Run.seq ?_
  refine Run.region ?_
  refine RL.val (x_assignSl rfl) ?_
  refine RL.nil ?_
  refine Run.seq ?_
  refine Run.region ?_
  refine RL.val (x_assignSl rfl) ?_
  refine RL.nil ?_
  refine Run.seq ?_
  refine Run.seq ?_
  refine Run.region ?_
  refine RL.val (x_assignI rfl) ?_
  refine RL.nil ?_
  refine Run.block ?_
  refine Run.loop (ι := Nat) (fun i ρ' w' => ∃ aLb : Option Addr, ∃ cLb : Nat, ∃ at1 : Option Addr, ∃ ct1 : Nat, Holds ρ' [(0, .pointer (some ⟨b, 0, none⟩)), (3, .slice (at1) ((goneI T i).length) (ct1)), (4, .int .i64 (((i : Nat) : Int)))] ∧ Keeps (rtabS b aL aP) w w' ∧ (Blk w' b [.int .i64 (T.self), .int .i64 (T.now), .slice (aLb) ((mixO T i).length) (cLb), .slice (aP) (T.pings.length) (cP), .int .i64 (T.req), .bool (T.begun), .int .i64 (T.last), .int .i64 (T.target)] 94) ∧ (OwnSl w' 98 (aP) (cP) (T.pings)) ∧ (OwnSl w' 90 aLb cLb (mixO T i)) ∧ (OwnSl w' 23 at1 ct1 (goneI T i)) ∧ (¬ own aLb b) ∧ (∀ q_, own aLb q_ → ¬ own aP q_) ∧ (∀ q_, own aLb q_ → ¬ own at1 q_) ∧ (∀ q_, own aLb q_ → q_ < w.heap.size → (rtabS b aL aP) q_) ∧ (¬ own at1 b) ∧ (∀ q_, own at1 q_ → ¬ own aP q_) ∧ (∀ q_, own at1 q_ → q_ < w.heap.size → (rtabS b aL aP) q_) ∧ (∀ q_, own at1 q_ → w.heap.size ≤ q_) ∧ (i ≤ (knownL T.l).length)) (fun i => (knownL T.l).length - i) 0 ?_ ?_
  · rw [mixO_zero, goneI_zero]
    have ho_13 := OwnSl.nil (α := Peer) w 23
    refine ⟨_, _, _, _, ⟨rfl, rfl, rfl, trivial⟩, (Keeps.refl _ w), hb, hoP, hoL, ho_13, hapL, hapLP, (fun q_ h1 h2 => (fun q_ h1 _ => own_none q_ h1) q_ h2 h1), (fun x h _ => Or.inr (Or.inl h)), (own_none b), (fun q_ h1 _ => own_none q_ h1), (fun q_ h1 _ => absurd h1 (own_none q_)), (fun q_ h1 => absurd h1 (own_none q_)), ?_⟩
    · omega
  clear hb hoL hoP
  rintro i ρ_14 w_1 ⟨aLb, cLb, at1, ct1, hH_2, K0, hb, hoP, ho_3, ho_4, pr_5, pr_6, pr_7, pr_8, pr_9, pr_10, pr_11, pr_12, hi⟩ ih1
  obtain ⟨ρ₀, rfl⟩ := hH_2.ex
  clear hH_2
  refine Run.seq ?_
  refine Run.seq ?_
  have hml := mixO_len (T := T) hi
  have hgl := goneI_len T i
  refine Run.region ?_
  refine RL.val (x_moveI rfl) ?_
  refine RL.val (x_moveP rfl) ?_
  refine RL.val (x_nilCheck rfl) ?_
  refine RL.val (x_fld (o' := 2) Try.underlying94 rfl ty91 rfl rfl rfl) ?_
  refine RL.val (x_ld (v := .slice (aLb) ((mixO T i).length) (cLb)) ty91 rfl rfl (hb.cl.field (i := 2) rfl)) ?_
  refine RL.val (x_lenSl Try.underlying91 rfl) ?_
  refine RL.val (x_ltI rfl rfl) ?_
  refine RL.nil ?_
  refine Run.cond rfl (fun hc11 => ?_) (fun hc11 => ?_)
  · try simp only [br] at hc11
    refine Run.skip ?_
    refine Run.seq ?_
    refine Run.block ?_
    refine Run.seq ?_
    obtain ⟨b_17, o_18, x, hx, ha_19, hc_20⟩ := ho_3.sl.el (i := i) (by first | omega | (simp only [List.length_set]; omega))
    obtain ⟨b_23, o_24, x_27, hx_28, ha_25, hc_26⟩ := ho_3.sl.el (i := i) (by first | omega | (simp only [List.length_set]; omega))
    obtain rfl : x = x_27 := Option.some.inj (hx.symm.trans hx_28)
    refine Run.draw' (m := 26) (by kernel_rfl) rfl ?_
    intro w_15 K_16
    replace hb := hb.ext K_16
    replace hoP := hoP.ext K_16
    replace ho_3 := ho_3.ext K_16
    replace ho_4 := ho_4.ext K_16
    replace hc_20 := hc_20.ext K_16
    replace hc_26 := hc_26.ext K_16
    replace K0 := K0.ext K_16
    refine RA.take (v := .pointer (some ⟨b, 0, none⟩)) 0 rfl (by kernel_rfl) rfl (by rintro _ rfl; exact (x_moveP rfl)) ?_
    refine RA.take (v := .pointer (some ⟨b, 0, none⟩)) 1 rfl (by kernel_rfl) rfl (by rintro _ rfl; exact (x_nilCheck rfl)) ?_
    refine RA.take (v := .pointer (some ⟨b, 2, none⟩)) 2 rfl (by kernel_rfl) rfl (by rintro _ rfl; exact (x_fld (o' := 2) Try.underlying94 rfl ty91 rfl rfl rfl)) ?_
    refine RA.take (v := .slice (aLb) ((mixO T i).length) (cLb)) 3 rfl (by kernel_rfl) rfl (by rintro _ rfl; exact (x_ld (v := .slice (aLb) ((mixO T i).length) (cLb)) ty91 rfl rfl (hb.cl.field (i := 2) rfl))) ?_
    refine RA.take (v := .int .i64 (((i : Nat) : Int))) 4 rfl (by kernel_rfl) rfl (by rintro _ rfl; exact (x_moveI rfl)) ?_
    refine RA.take (v := .pointer (some ⟨b_17, o_18 + i * 4, none⟩)) 5 rfl (by kernel_rfl) rfl (by rintro _ rfl; exact (x_idxN Try.underlying91 ty90 rfl rfl ha_19 (by first | omega | (simp only [List.length_set]; omega)))) ?_
    refine RA.take (v := .pointer (some ⟨b_17, o_18 + i * 4 + 0, none⟩)) 6 rfl (by kernel_rfl) rfl (by rintro _ rfl; exact (x_fld (o' := o_18 + i * 4 + 0) Try.underlying90 rfl ty23 rfl rfl rfl)) ?_
    refine RA.take (v := .pointer (some ⟨b_17, o_18 + i * 4 + 0 + 2, none⟩)) 7 rfl (by kernel_rfl) rfl (by rintro _ rfl; exact (x_fld (o' := o_18 + i * 4 + 0 + 2) Try.underlying23 rfl ty3 rfl rfl rfl)) ?_
    refine RA.take (v := .int .i64 (((x).peer).status)) 8 rfl (by kernel_rfl) rfl (by rintro _ rfl; exact (x_ld ty3 rfl rfl (hc_20.field (i := 2) rfl))) ?_
    refine RA.take (v := .bool ((((x).peer).status) == 2)) 9 rfl (by kernel_rfl) rfl (by rintro _ rfl; exact (x_eqI rfl rfl)) ?_
    refine RA.take (v := .bool ((((x).peer).status) == 2)) 10 rfl (by kernel_rfl) rfl (by rintro _ rfl; exact (x_moveB rfl)) ?_
    refine RA.gtake (v := .pointer (some ⟨b, 0, none⟩)) 11 rfl (by kernel_rfl) rfl (wantedT rfl rfl rfl rfl) (fun hg => by rintro _ rfl; exact (x_moveP rfl)) ?_
    refine RA.gtake (v := .pointer (some ⟨b, 0, none⟩)) 12 rfl (by kernel_rfl) rfl (wantedT rfl rfl rfl rfl) (fun hg => by rintro _ rfl; exact (x_nilCheck (gvr hg))) ?_
    refine RA.gtake (v := .pointer (some ⟨b, 1, none⟩)) 13 rfl (by kernel_rfl) rfl (wantedT rfl rfl rfl rfl) (fun hg => by rintro _ rfl; exact (x_fld (o' := 1) Try.underlying94 rfl ty3 rfl (gvr hg) rfl)) ?_
    refine RA.gtake (v := .int .i64 (T.now)) 14 rfl (by kernel_rfl) rfl (wantedT rfl rfl rfl rfl) (fun hg => by rintro _ rfl; exact (x_ld (v := .int .i64 (T.now)) ty3 (gvr hg) rfl (hb.cl.field (i := 1) rfl))) ?_
    refine RA.gtake (v := .pointer (some ⟨b, 0, none⟩)) 15 rfl (by kernel_rfl) rfl (wantedT rfl rfl rfl rfl) (fun hg => by rintro _ rfl; exact (x_moveP rfl)) ?_
    refine RA.gtake (v := .pointer (some ⟨b, 0, none⟩)) 16 rfl (by kernel_rfl) rfl (wantedT rfl rfl rfl rfl) (fun hg => by rintro _ rfl; exact (x_nilCheck (gvr hg))) ?_
    refine RA.gtake (v := .pointer (some ⟨b, 2, none⟩)) 17 rfl (by kernel_rfl) rfl (wantedT rfl rfl rfl rfl) (fun hg => by rintro _ rfl; exact (x_fld (o' := 2) Try.underlying94 rfl ty91 rfl (gvr hg) rfl)) ?_
    refine RA.gtake (v := .slice (aLb) ((mixO T i).length) (cLb)) 18 rfl (by kernel_rfl) rfl (wantedT rfl rfl rfl rfl) (fun hg => by rintro _ rfl; exact (x_ld (v := .slice (aLb) ((mixO T i).length) (cLb)) ty91 (gvr hg) rfl (hb.cl.field (i := 2) rfl))) ?_
    refine RA.gtake (v := .int .i64 (((i : Nat) : Int))) 19 rfl (by kernel_rfl) rfl (wantedT rfl rfl rfl rfl) (fun hg => by rintro _ rfl; exact (x_moveI rfl)) ?_
    refine RA.gtake (v := .pointer (some ⟨b_23, o_24 + i * 4, none⟩)) 20 rfl (by kernel_rfl) rfl (wantedT rfl rfl rfl rfl) (fun hg => by rintro _ rfl; exact (x_idxN Try.underlying91 ty90 (gvr hg) (gvr hg) ha_25 (by first | omega | (simp only [List.length_set]; omega)))) ?_
    refine RA.gtake (v := .pointer (some ⟨b_23, o_24 + i * 4 + 3, none⟩)) 21 rfl (by kernel_rfl) rfl (wantedT rfl rfl rfl rfl) (fun hg => by rintro _ rfl; exact (x_fld (o' := o_24 + i * 4 + 3) Try.underlying90 rfl ty3 rfl (gvr hg) rfl)) ?_
    refine RA.gtake (v := .int .i64 ((x).since)) 22 rfl (by kernel_rfl) rfl (wantedT rfl rfl rfl rfl) (fun hg => by rintro _ rfl; exact (x_ld ty3 (gvr hg) rfl (hc_26.field (i := 3) rfl))) ?_
    refine RA.gtake (v := .int .i64 (T.now - ((x).since))) 23 rfl (by kernel_rfl) rfl (wantedT rfl rfl rfl rfl) (fun hg => by rintro _ rfl; exact (x_sub (gvr hg) (gvr hg) (by have hx' : (knownL T.l)[i]? = some x := (by rw [← mixO_get (by omega)]; exact hx); have hkf := known_facts ok (mem_of_at hx'); omega) (by have hx' : (knownL T.l)[i]? = some x := (by rw [← mixO_get (by omega)]; exact hx); have hkf := known_facts ok (mem_of_at hx'); have := ok.now0; omega))) ?_
    refine RA.gtake (v := .bool (decide (300 ≤ (T.now - ((x).since))))) 24 rfl (by kernel_rfl) rfl (wantedT rfl rfl rfl rfl) (fun hg => by rintro _ rfl; exact (x_geI (gvr hg) rfl)) ?_
    refine RA.take (v := .bool (((((x).peer).status) == 2) && (decide (300 ≤ (T.now - ((x).since)))))) 25 rfl (by kernel_rfl) rfl (by rintro _ rfl; exact (x_and rfl rfl rfl)) ?_
    refine RA.done (by kernel_rfl) ?_
    have hx' : (knownL T.l)[i]? = some x := by rw [← mixO_get (by omega)]; exact hx
    have hkf := known_facts ok (mem_of_at hx')
    have hnw := ok.now0
    refine Run.cond rfl (fun hc39 => ?_) (fun hc39 => ?_)
    · try simp only [br] at hc39
      refine Run.seq ?_
      refine Run.region ?_
      refine RL.val (x_moveP rfl) ?_
      refine RL.val (x_nilCheck rfl) ?_
      refine RL.val (x_fld (o' := 2) Try.underlying94 rfl ty91 rfl rfl rfl) ?_
      refine RL.val (x_ld (v := .slice (aLb) ((mixO T i).length) (cLb)) ty91 rfl rfl (hb.cl.field (i := 2) rfl)) ?_
      refine RL.val (x_moveI rfl) ?_
      obtain ⟨b_29, o_30, x_33, hx_34, ha_31, hc_32⟩ := ho_3.sl.el (i := i) (by first | omega | (simp only [List.length_set]; omega))
      obtain rfl : x = x_33 := Option.some.inj (hx.symm.trans hx_34)
      refine RL.val (x_idxN Try.underlying91 ty90 rfl rfl ha_31 (by first | omega | (simp only [List.length_set]; omega))) ?_
      refine RL.val (x_fld (o' := o_30 + i * 4 + 0) Try.underlying90 rfl ty23 rfl rfl rfl) ?_
      refine RL.val (x_fld (o' := o_30 + i * 4 + 0 + 2) Try.underlying23 rfl ty3 rfl rfl rfl) ?_
      refine RL.st rfl <| St1.storeEl (v := .int .i64 (3)) (off := 2) (i := i) (⟨(⟨x.peer.node, x.peer.inc, 3⟩ : Peer), x.since⟩ : KnownM) ty3 rfl rfl rfl (by simp [Value.cells, Value.oneCell']) ho_3 ha_31 hx_34 rfl (by decide) rfl ?_
      intro w_35 ho_37 K_36
      clear hc_32
      replace hb := hb.keep K_36 pr_5
      replace hoP := hoP.keepO K_36 (fun q_ h1 h2 => pr_6 q_ h2 h1)
      replace ho_4 := ho_4.keepO K_36 (fun q_ h1 h2 => pr_7 q_ h2 h1)
      replace K0 := K0.trans K_36 (fun x hlt hx => pr_8 x hx hlt)
      replace ho_3 := ho_37
      clear ho_37
      rw [show (mixO T i).length = ((mixO T i).set i (⟨(⟨x.peer.node, x.peer.inc, 3⟩ : Peer), x.since⟩ : KnownM)).length from (List.length_set ..).symm] at hb
      refine RL.nil ?_
      refine Run.seq ?_
      obtain ⟨b_40, o_41, x_44, hx_45, ha_42, hc_43⟩ := ho_3.sl.el (i := i) (by first | omega | (simp only [List.length_set]; omega))
      obtain rfl : (⟨(⟨x.peer.node, x.peer.inc, 3⟩ : Peer), x.since⟩ : KnownM) = x_44 := Option.some.inj ((get_set_self hx_34).symm.trans hx_45)
      refine Run.drawT [11] (m := 12) (by kernel_rfl) rfl ?_
      intro w_38 K_39
      replace hb := hb.ext K_39
      replace hoP := hoP.ext K_39
      replace ho_3 := ho_3.ext K_39
      replace ho_4 := ho_4.ext K_39
      replace hc_43 := hc_43.ext K_39
      replace K0 := K0.ext K_39
      refine ⟨fun w' => Blk w' b [.int .i64 (T.self), .int .i64 (T.now), .slice (aLb) (((mixO T i).set i (⟨(⟨x.peer.node, x.peer.inc, 3⟩ : Peer), x.since⟩ : KnownM)).length) (cLb), .slice (aP) (T.pings.length) (cP), .int .i64 (T.req), .bool (T.begun), .int .i64 (T.last), .int .i64 (T.target)] 94 ∧ Cl w' b_40 (o_41 + i * 4) (cellsOf (⟨(⟨x.peer.node, x.peer.inc, 3⟩ : Peer), x.since⟩ : KnownM)) ∧ True, ?_⟩
      refine RT.takeP (v := .pointer (some ⟨b, 0, none⟩)) 0 rfl (by kernel_rfl) (.inr ⟨hb, hc_43, trivial⟩) (fun _ => (x_moveP rfl)) ?_
      refine RT.takeP (v := .pointer (some ⟨b, 0, none⟩)) 1 rfl (by kernel_rfl) (.inr ⟨hb, hc_43, trivial⟩) (fun _ => (x_nilCheck rfl)) ?_
      refine RT.takeP (v := .pointer (some ⟨b, 2, none⟩)) 2 rfl (by kernel_rfl) (.inr ⟨hb, hc_43, trivial⟩) (fun _ => (x_fld (o' := 2) Try.underlying94 rfl ty91 rfl rfl rfl)) ?_
      refine RT.take (v := .slice (aLb) (((mixO T i).set i (⟨(⟨x.peer.node, x.peer.inc, 3⟩ : Peer), x.since⟩ : KnownM)).length) (cLb)) 3 rfl (by kernel_rfl) ⟨hb, hc_43, trivial⟩ (by rintro _ ⟨hb, hc_43, -⟩; exact (x_ld (v := .slice (aLb) (((mixO T i).set i (⟨(⟨x.peer.node, x.peer.inc, 3⟩ : Peer), x.since⟩ : KnownM)).length) (cLb)) ty91 rfl rfl (hb.cl.field (i := 2) rfl))) ?_
      refine RT.takeP (v := .int .i64 (((i : Nat) : Int))) 4 rfl (by kernel_rfl) (.inr ⟨hb, hc_43, trivial⟩) (fun _ => (x_moveI rfl)) ?_
      refine RT.takeP (v := .pointer (some ⟨b, 0, none⟩)) 5 rfl (by kernel_rfl) (.inr ⟨hb, hc_43, trivial⟩) (fun _ => (x_moveP rfl)) ?_
      refine RT.takeP (v := .pointer (some ⟨b, 0, none⟩)) 6 rfl (by kernel_rfl) (.inr ⟨hb, hc_43, trivial⟩) (fun _ => (x_nilCheck rfl)) ?_
      refine RT.takeP (v := .pointer (some ⟨b, 1, none⟩)) 7 rfl (by kernel_rfl) (.inr ⟨hb, hc_43, trivial⟩) (fun _ => (x_fld (o' := 1) Try.underlying94 rfl ty3 rfl rfl rfl)) ?_
      refine RT.take (v := .int .i64 (T.now)) 8 rfl (by kernel_rfl) ⟨hb, hc_43, trivial⟩ (by rintro _ ⟨hb, hc_43, -⟩; exact (x_ld (v := .int .i64 (T.now)) ty3 rfl rfl (hb.cl.field (i := 1) rfl))) ?_
      refine RT.takeP (v := .pointer (some ⟨b_40, o_41 + i * 4, none⟩)) 9 rfl (by kernel_rfl) (.inr ⟨hb, hc_43, trivial⟩) (fun _ => (x_idxN Try.underlying91 ty90 rfl rfl ha_42 (by first | omega | (simp only [List.length_set]; omega)))) ?_
      refine RT.takeP (v := .pointer (some ⟨b_40, o_41 + i * 4 + 3, none⟩)) 10 rfl (by kernel_rfl) (.inr ⟨hb, hc_43, trivial⟩) (fun _ => (x_fld (o' := o_41 + i * 4 + 3) Try.underlying90 rfl ty3 rfl rfl rfl)) ?_
      refine RT.st 11 rfl (by kernel_rfl) rfl <| St1.storeEl (v := .int .i64 (T.now)) (off := 3) (i := i) (⟨(⟨x.peer.node, x.peer.inc, 3⟩ : Peer), T.now⟩ : KnownM) ty3 rfl rfl rfl (by simp [Value.cells, Value.oneCell']) ho_3 ha_42 hx_45 rfl (by decide) rfl ?_
      intro w_46 ho_48 K_47
      clear hc_43
      replace hb := hb.keep K_47 pr_5
      replace hoP := hoP.keepO K_47 (fun q_ h1 h2 => pr_6 q_ h2 h1)
      replace ho_4 := ho_4.keepO K_47 (fun q_ h1 h2 => pr_7 q_ h2 h1)
      replace K0 := K0.trans K_47 (fun x hlt hx => pr_8 x hx hlt)
      replace ho_3 := ho_48
      clear ho_48
      rw [show ((mixO T i).set i (⟨(⟨x.peer.node, x.peer.inc, 3⟩ : Peer), x.since⟩ : KnownM)).length = (((mixO T i).set i (⟨(⟨x.peer.node, x.peer.inc, 3⟩ : Peer), x.since⟩ : KnownM)).set i (⟨(⟨x.peer.node, x.peer.inc, 3⟩ : Peer), T.now⟩ : KnownM)).length from (List.length_set ..).symm] at hb
      refine ⟨.inl (by kernel_rfl), ?_⟩
      refine RT.done (by kernel_rfl) ?_
      refine Run.region ?_
      refine RL.val (x_moveSl rfl) ?_
      refine RL.val (x_moveP rfl) ?_
      refine RL.val (x_nilCheck rfl) ?_
      refine RL.val (x_fld (o' := 2) Try.underlying94 rfl ty91 rfl rfl rfl) ?_
      refine RL.val (x_ld (v := .slice (aLb) ((((mixO T i).set i (⟨(⟨x.peer.node, x.peer.inc, 3⟩ : Peer), x.since⟩ : KnownM)).set i (⟨(⟨x.peer.node, x.peer.inc, 3⟩ : Peer), T.now⟩ : KnownM)).length) (cLb)) ty91 rfl rfl (hb.cl.field (i := 2) rfl)) ?_
      refine RL.val (x_moveI rfl) ?_
      obtain ⟨b_49, o_50, x_53, hx_54, ha_51, hc_52⟩ := ho_3.sl.el (i := i) (by first | omega | (simp only [List.length_set]; omega))
      obtain rfl : (⟨(⟨x.peer.node, x.peer.inc, 3⟩ : Peer), T.now⟩ : KnownM) = x_53 := Option.some.inj ((get_set_self hx_45).symm.trans hx_54)
      refine RL.val (x_idxN Try.underlying91 ty90 rfl rfl ha_51 (by first | omega | (simp only [List.length_set]; omega))) ?_
      refine RL.val (x_fld (o' := o_50 + i * 4 + 0) Try.underlying90 rfl ty23 rfl rfl rfl) ?_
      refine RL.val (x_lds (cs := #[.int .i64 ((((⟨(⟨x.peer.node, x.peer.inc, 3⟩ : Peer), T.now⟩ : KnownM)).peer).node), .int .i64 ((((⟨(⟨x.peer.node, x.peer.inc, 3⟩ : Peer), T.now⟩ : KnownM)).peer).inc), .int .i64 ((((⟨(⟨x.peer.node, x.peer.inc, 3⟩ : Peer), T.now⟩ : KnownM)).peer).status)]) ty23 rfl rfl (hc_52.drop 0 3)) ?_
      refine RL.st rfl <| St1.buildSlice ([((⟨(⟨x.peer.node, x.peer.inc, 3⟩ : Peer), T.now⟩ : KnownM)).peer] : List Peer) Try.underlying32 ty23 rfl rfl (by first | decide | (simp [Enc.size])) ?_
      intro b_55 w_56 hl_59 ho_58 K_57
      have pr_60 : ¬ own (some ⟨b_55, 0, none⟩) b := notNew (ge_new hl_59) hb.lt
      have pr_61 : ∀ q_, own (some ⟨b_55, 0, none⟩) q_ → ¬ own aP q_ := apartNew (ge_new hl_59) hoP.own_lt
      have pr_62 : ∀ q_, own (some ⟨b_55, 0, none⟩) q_ → ¬ own aLb q_ := apartNew (ge_new hl_59) ho_3.own_lt
      have pr_63 : ∀ q_, own (some ⟨b_55, 0, none⟩) q_ → ¬ own at1 q_ := apartNew (ge_new hl_59) ho_4.own_lt
      have pg_64 : ∀ q_, own (some ⟨b_55, 0, none⟩) q_ → q_ < w.heap.size → (rtabS b aL aP) q_ := fun q_ h hlt => absurd (Nat.le_trans K0.size ((ge_new hl_59) q_ h)) (by omega)
      have pw_65 : ∀ q_, own (some ⟨b_55, 0, none⟩) q_ → w.heap.size ≤ q_ := fun q_ h => Nat.le_trans K0.size ((ge_new hl_59) q_ h)
      clear hl_59
      replace hb := hb.ext K_57
      replace hoP := hoP.ext K_57
      replace ho_3 := ho_3.ext K_57
      replace ho_4 := ho_4.ext K_57
      replace hc_52 := hc_52.ext K_57
      replace K0 := K0.ext K_57
      refine RL.st rfl <| St1.append (xs := goneI T i) (ys := ([((⟨(⟨x.peer.node, x.peer.inc, 3⟩ : Peer), T.now⟩ : KnownM)).peer] : List Peer)) Try.underlying32 ty23 rfl rfl rfl ho_4 ho_58.sl (by first | omega | (simp only [lr]; omega)) (by decide) ?_
      intro a_66 c_67 w_68 ho_69 K_70 hm_71 hrm_72
      have pr_73 : ¬ own a_66 b := hm_71.not pr_9 hb.lt
      have pr_74 : ∀ q_, own a_66 q_ → ¬ own aP q_ := hm_71.apart pr_10 hoP.own_lt
      have pr_75 : ∀ q_, own a_66 q_ → ¬ own aLb q_ := hm_71.apart (fun q_ h1 h2 => pr_7 q_ h2 h1) ho_3.own_lt
      have pr_76 : ∀ q_, own a_66 q_ → ¬ own (some ⟨b_55, 0, none⟩) q_ := hm_71.apart (fun q_ h1 h2 => pr_63 q_ h2 h1) ho_58.own_lt
      have pg_77 : ∀ q_, own a_66 q_ → q_ < w.heap.size → (rtabS b aL aP) q_ := hm_71.inS pr_11 K0.size
      have pw_78 : ∀ q_, own a_66 q_ → w.heap.size ≤ q_ := hm_71.ge pr_12 K0.size
      replace hb := hb.keep K_70 pr_9
      replace hoP := hoP.keepO K_70 (fun q_ h1 h2 => pr_10 q_ h2 h1)
      replace ho_3 := ho_3.keepO K_70 pr_7
      replace hc_52 := hc_52.keep K_70 (fun h => pr_7 _ ((own_sub _) _ ha_51) h)
      replace ho_58 := ho_58.keepO K_70 pr_63
      replace K0 := K0.trans K_70 (fun x hlt hx => pr_11 x hx hlt)
      clear hm_71
      clear hrm_72
      refine RL.val (x_assignSl rfl) ?_
      refine RL.nil ?_
      refine Run.inBlock ?_
      refine Run.region ?_
      refine RL.val (x_moveI rfl) ?_
      refine RL.val (litI (c := ((i + 1 : Nat) : Int)) (x_add rfl rfl (by omega) (by omega)) rfl) ?_
      refine RL.val (x_assignI rfl) ?_
      refine RL.nil ?_
      have e1 := mixO_yes (y := ⟨⟨x.peer.node, x.peer.inc, 3⟩, x.since⟩) hx' hc39
      have e2 := goneI_yes hx' hc39
      refine ih1 (i + 1) _ _ ?_ (by omega)
      rw [e1, e2]
      refine ⟨_, _, _, _, ⟨rfl, rfl, rfl, trivial⟩, K0, hb, hoP, ho_3, ho_69, pr_5, pr_6, (fun q_ h1 h2 => pr_75 q_ h2 h1), pr_8, pr_73, pr_74, pg_77, pw_78, ?_⟩
      · omega
    · try simp only [br] at hc39
      refine Run.skip ?_
      refine Run.inBlock ?_
      refine Run.region ?_
      refine RL.val (x_moveI rfl) ?_
      refine RL.val (litI (c := ((i + 1 : Nat) : Int)) (x_add rfl rfl (by omega) (by omega)) rfl) ?_
      refine RL.val (x_assignI rfl) ?_
      refine RL.nil ?_
      have e1 := mixO_no hx' (by omega)
      have e2 := goneI_no hx' (by omega)
      refine ih1 (i + 1) _ _ ?_ (by omega)
      rw [e1, e2]
      refine ⟨_, _, _, _, ⟨rfl, rfl, rfl, trivial⟩, K0, hb, hoP, ho_3, ho_4, pr_5, pr_6, pr_7, pr_8, pr_9, pr_10, pr_11, pr_12, ?_⟩
      · omega
  · try simp only [br] at hc11
    refine Run.exit rfl ?_
    refine Run.seq ?_
    refine Run.region ?_
    refine RL.val (x_moveSl rfl) ?_
    refine RL.val (x_assignSl rfl) ?_
    refine RL.nil ?_
    refine Run.ret1 (v := .slice (at1) ((goneI T i).length) (ct1)) Try.func51 rfl rfl ?_
    have hil : i = (knownL T.l).length := by have := mixO_len (T := T) hi; omega
    have e1 : (oldT T).1 = { T with l := T.l.map (oldF T.now) } := (old_all ok).2.2
    have e2 : (oldT T).2 = goneI T i := by rw [hil]; exact goneI_all ok
    have eL_80 : mixO T i = knownL ({ T with l := T.l.map (oldF T.now) }).l := (by rw [hil]; exact mixO_all)
    rw [eL_80] at hb ho_3
    have hR_79 : RTabAt w_1 b aLb cLb aP cP ({ T with l := T.l.map (oldF T.now) }) := ⟨hb, ho_3, hoP, pr_5, hapP, pr_6, (by rw [← e1]; exact (oldT_ok ok).1), (by have h_ := (nev_old ok nv).1; rw [e1] at h_; exact h_)⟩
    have pt_81 : ∀ q_, rtabS b aLb aP q_ → ¬ own at1 q_ := (fun q_ h1 h2 => h1.elim (fun e => pr_9 (e ▸ h2)) (fun h1 => h1.elim (fun h => pr_7 q_ h h2) (fun h => (fun q_ h1 h2 => pr_10 q_ h2 h1) q_ h h2)))
    have pt_82 : ∀ q_, rtabS b aLb aP q_ → q_ < w.heap.size → (rtabS b aL aP) q_ := (fun q_ h1 hlt => h1.elim (fun e => e ▸ (Or.inl rfl)) (fun h1 => h1.elim (fun h => pr_8 q_ h hlt) (fun h => (fun x h _ => Or.inr (Or.inr h)) q_ h hlt)))
    clear hb ho_3 hoP
    rw [e1, e2]
    exact ⟨_, rfl, aLb, cLb, aP, cP, at1, ct1, rfl, hR_79, ho_4, pr_12, (fun q_ h1 h2 => pt_81 q_ h2 h1), rtabMoved' (fun x hx hlt => pt_82 x (.inr (.inl hx)) hlt) (fun x hx hlt => pt_82 x (.inr (.inr hx)) hlt), K0⟩

set_option maxRecDepth 100000 in
set_option maxHeartbeats 4000000 in
theorem targetR_ (b : Nat) (aL : Option Addr) (cL : Nat) (aP : Option Addr) (cP : Nat) (T : Tab)  (w : World) (hb : Blk w b [.int .i64 (T.self), .int .i64 (T.now), .slice (aL) ((knownL T.l).length) (cL), .slice (aP) (T.pings.length) (cP), .int .i64 (T.req), .bool (T.begun), .int .i64 (T.last), .int .i64 (T.target)] 94) (hsL : SlOf w aL (knownL T.l)) (hsP : SlOf w aP T.pings) (ok : TabOk T) (hpl : T.pings.length ≤ 1048576) :
    Calls Try.prog 53 #[.pointer (some ⟨b, 0, none⟩)] w (Ret (fun v w' => v = .int .i64 (nextT T) ∧ Ext w w')) := by
  have hkl := knownL_len T.l
  have hl8 := ok.len
  refine calls_run (n := 74) Try.func53 rfl rfl rfl ?_
  refine Run.seq ?_
  refine Run.region ?_
  refine RL.val (x_assignI rfl) ?_
  refine RL.nil ?_
  refine Run.seq ?_
  refine Run.region ?_
  refine RL.val (x_assignI rfl) ?_
  refine RL.nil ?_
  refine Run.seq ?_
  refine Run.region ?_
  refine RL.val (x_assignI rfl) ?_
  refine RL.nil ?_
  refine Run.seq ?_
  refine Run.seq ?_
  refine Run.region ?_
  refine RL.val (x_assignI rfl) ?_
  refine RL.nil ?_
  refine Run.block ?_
  refine Run.loop (ι := Nat) (fun i ρ' w' => Holds ρ' [(0, .pointer (some ⟨b, 0, none⟩)), (3, .int .i64 ((tf (nxtR T) (-1, -1) (knownL T.l) i).1)), (4, .int .i64 ((tf (nxtR T) (-1, -1) (knownL T.l) i).2)), (5, .int .i64 (((i : Nat) : Int)))] ∧ Ext w w' ∧ (Blk w' b [.int .i64 (T.self), .int .i64 (T.now), .slice (aL) ((knownL T.l).length) (cL), .slice (aP) (T.pings.length) (cP), .int .i64 (T.req), .bool (T.begun), .int .i64 (T.last), .int .i64 (T.target)] 94) ∧ (i ≤ (knownL T.l).length)) (fun i => (knownL T.l).length - i) 0 ?_ ?_
  · rw [tf_zero]
    refine ⟨⟨rfl, rfl, rfl, rfl, trivial⟩, (Keeps.refl _ w), hb, ?_⟩
    · omega
  clear hb
  rintro i ρ_3 w_1 ⟨hH_2, K0, hb, hi⟩ ih1
  obtain ⟨ρ₀, rfl⟩ := hH_2.ex
  clear hH_2
  refine Run.seq ?_
  refine Run.seq ?_
  refine Run.region ?_
  refine RL.val (x_moveI rfl) ?_
  refine RL.val (x_moveP rfl) ?_
  refine RL.val (x_nilCheck rfl) ?_
  refine RL.val (x_fld (o' := 2) Try.underlying94 rfl ty91 rfl rfl rfl) ?_
  refine RL.val (x_ld (v := .slice (aL) ((knownL T.l).length) (cL)) ty91 rfl rfl (hb.cl.field (i := 2) rfl)) ?_
  refine RL.val (x_lenSl Try.underlying91 rfl) ?_
  refine RL.val (x_ltI rfl rfl) ?_
  refine RL.nil ?_
  refine Run.cond rfl (fun hc15 => ?_) (fun hc15 => ?_)
  · try simp only [br] at hc15
    refine Run.skip ?_
    refine Run.seq ?_
    refine Run.block ?_
    refine Run.seq ?_
    refine Run.region ?_
    refine RL.val (x_moveP rfl) ?_
    refine RL.val (x_nilCheck rfl) ?_
    refine RL.val (x_fld (o' := 2) Try.underlying94 rfl ty91 rfl rfl rfl) ?_
    refine RL.val (x_ld (v := .slice (aL) ((knownL T.l).length) (cL)) ty91 rfl rfl (hb.cl.field (i := 2) rfl)) ?_
    refine RL.val (x_moveI rfl) ?_
    obtain ⟨b_4, o_5, x, hx, ha_6, hc_7⟩ := hsL.el (i := i) (by first | omega | (simp only [List.length_set]; omega))
    have hc_7_lt := hc_7.lt
    replace hc_7 := hc_7.ext K0
    refine RL.val (x_idxN Try.underlying91 ty90 rfl rfl ha_6 (by first | omega | (simp only [List.length_set]; omega))) ?_
    refine RL.val (x_fld (o' := o_5 + i * 4 + 0) Try.underlying90 rfl ty23 rfl rfl rfl) ?_
    refine RL.val (x_fld (o' := o_5 + i * 4 + 0 + 0) Try.underlying23 rfl ty3 rfl rfl rfl) ?_
    refine RL.val (x_ld ty3 rfl rfl (hc_7.field (i := 0) rfl)) ?_
    refine RL.val (x_assignI rfl) ?_
    refine RL.nil ?_
    refine Run.seq ?_
    refine Run.region ?_
    refine RL.val (x_moveI rfl) ?_
    refine RL.val (x_moveP rfl) ?_
    refine RL.val (x_nilCheck rfl) ?_
    refine RL.val (x_fld (o' := 0) Try.underlying94 rfl ty3 rfl rfl rfl) ?_
    refine RL.val (x_ld (v := .int .i64 (T.self)) ty3 rfl rfl (hb.cl.field (i := 0) rfl)) ?_
    refine RL.val (x_eqI rfl rfl) ?_
    refine RL.val (x_assignB rfl) ?_
    refine RL.nil ?_
    refine Run.seq ?_
    refine Run.seq ?_
    refine Run.region ?_
    refine RL.val (x_assignI rfl) ?_
    refine RL.nil ?_
    refine Run.block ?_
    refine Run.loop (ι := Nat) (fun j ρ' w' => Holds ρ' [(0, .pointer (some ⟨b, 0, none⟩)), (3, .int .i64 ((tf (nxtR T) (-1, -1) (knownL T.l) i).1)), (4, .int .i64 ((tf (nxtR T) (-1, -1) (knownL T.l) i).2)), (5, .int .i64 (((i : Nat) : Int))), (6, .int .i64 (((x).peer).node)), (7, .bool ((x.peer.node == T.self) || ((T.pings.take j).any (fun p => p.target == x.peer.node)))), (8, .int .i64 (((j : Nat) : Int))), (9, .int .i64 (((i : Nat) : Int))), (10, .pointer (some ⟨b, 0, none⟩)), (11, .pointer (some ⟨b, 0, none⟩)), (12, .pointer (some ⟨b, 2, none⟩)), (13, .slice (aL) ((knownL T.l).length) (cL)), (14, .int .i64 ((((knownL T.l).length : Nat) : Int))), (15, .bool (decide (((i : Nat) : Int) < (((knownL T.l).length : Nat) : Int))))] ∧ Ext w w' ∧ (Blk w' b [.int .i64 (T.self), .int .i64 (T.now), .slice (aL) ((knownL T.l).length) (cL), .slice (aP) (T.pings.length) (cP), .int .i64 (T.req), .bool (T.begun), .int .i64 (T.last), .int .i64 (T.target)] 94) ∧ (j ≤ T.pings.length)) (fun j => T.pings.length - j) 0 ?_ ?_
    · rw [show ((x.peer.node == T.self) || ((T.pings.take 0).any (fun p => p.target == x.peer.node))) = (x.peer.node == T.self) by simp]
      refine ⟨⟨rfl, rfl, rfl, rfl, rfl, rfl, rfl, rfl, rfl, rfl, rfl, rfl, rfl, rfl, trivial⟩, K0, hb, ?_⟩
      · omega
    clear hb
    clear K0
    rintro j ρ_12 w_10 ⟨hH_11, K0, hb, hj⟩ ih2
    obtain ⟨ρ₀, rfl⟩ := hH_11.ex
    clear hH_11
    refine Run.seq ?_
    refine Run.seq ?_
    refine Run.region ?_
    refine RL.val (x_moveI rfl) ?_
    refine RL.val (x_moveP rfl) ?_
    refine RL.val (x_nilCheck rfl) ?_
    refine RL.val (x_fld (o' := 3) Try.underlying94 rfl ty92 rfl rfl rfl) ?_
    refine RL.val (x_ld (v := .slice (aP) (T.pings.length) (cP)) ty92 rfl rfl (hb.cl.field (i := 3) rfl)) ?_
    refine RL.val (x_lenSl Try.underlying92 rfl) ?_
    refine RL.val (x_ltI rfl rfl) ?_
    refine RL.nil ?_
    refine Run.cond rfl (fun hc39 => ?_) (fun hc39 => ?_)
    · try simp only [br] at hc39
      refine Run.skip ?_
      refine Run.seq ?_
      refine Run.block ?_
      refine Run.region ?_
      refine RL.val (x_moveB rfl) ?_
      refine RL.val (x_moveB rfl) ?_
      refine RL.gval (wantedF rfl rfl rfl rfl) (fun hg => (x_moveP rfl)) ?_
      refine RL.gval (wantedF rfl rfl rfl rfl) (fun hg => (x_nilCheck (gvr hg))) ?_
      refine RL.gval (wantedF rfl rfl rfl rfl) (fun hg => (x_fld (o' := 3) Try.underlying94 rfl ty92 rfl (gvr hg) rfl)) ?_
      refine RL.gval (wantedF rfl rfl rfl rfl) (fun hg => (x_ld (v := .slice (aP) (T.pings.length) (cP)) ty92 (gvr hg) rfl (hb.cl.field (i := 3) rfl))) ?_
      refine RL.gval (wantedF rfl rfl rfl rfl) (fun hg => (x_moveI rfl)) ?_
      obtain ⟨b_13, o_14, y, hy, ha_15, hc_16⟩ := hsP.el (i := j) (by first | omega | (simp only [List.length_set]; omega))
      have hc_16_lt := hc_16.lt
      replace hc_16 := hc_16.ext K0
      refine RL.gval (wantedF rfl rfl rfl rfl) (fun hg => (x_idxN Try.underlying92 ty98 (gvr hg) (gvr hg) ha_15 (by first | omega | (simp only [List.length_set]; omega)))) ?_
      refine RL.gval (wantedF rfl rfl rfl rfl) (fun hg => (x_fld (o' := o_14 + j * 4 + 0) Try.underlying98 rfl ty3 rfl (gvr hg) rfl)) ?_
      refine RL.gval (wantedF rfl rfl rfl rfl) (fun hg => (x_ld ty3 (gvr hg) rfl (hc_16.field (i := 0) rfl))) ?_
      refine RL.gval (wantedF rfl rfl rfl rfl) (fun hg => (x_moveI rfl)) ?_
      refine RL.gval (wantedF rfl rfl rfl rfl) (fun hg => (x_eqI (gvr hg) (gvr hg))) ?_
      refine RL.val (x_or rfl rfl rfl) ?_
      refine RL.val (x_assignB rfl) ?_
      refine RL.nil ?_
      refine Run.inBlock ?_
      refine Run.region ?_
      refine RL.val (x_moveI rfl) ?_
      refine RL.val (litI (c := ((j + 1 : Nat) : Int)) (x_add rfl rfl (by omega) (by omega)) rfl) ?_
      refine RL.val (x_assignI rfl) ?_
      refine RL.nil ?_
      have e := any_take hy (fun p => p.target == x.peer.node)
      refine ih2 (j + 1) _ _ ?_ (by omega)
      rw [e, ← Bool.or_assoc]
      refine ⟨⟨rfl, rfl, rfl, rfl, rfl, rfl, rfl, rfl, rfl, rfl, rfl, rfl, rfl, rfl, trivial⟩, K0, hb, ?_⟩
      · omega
    · try simp only [br] at hc39
      refine Run.exit rfl ?_
      refine Run.seq ?_
      refine Run.seq ?_
      refine Run.region ?_
      refine RL.val (x_moveB rfl) ?_
      refine RL.nil ?_
      refine Run.cond rfl (fun hc55 => ?_) (fun hc55 => ?_)
      · try simp only [br] at hc55
        have hjl : j = T.pings.length := by omega
        rw [hjl, List.take_length] at hc55
        
        refine Run.exit rfl ?_
        refine Run.region ?_
        refine RL.val (x_moveI rfl) ?_
        refine RL.val (litI (c := ((i + 1 : Nat) : Int)) (x_add rfl rfl (by omega) (by omega)) rfl) ?_
        refine RL.val (x_assignI rfl) ?_
        refine RL.nil ?_
        have e := (tf_succ (f := nxtR T) (s := (-1, -1)) hx).trans (nxtR_skip hc55)
        refine ih1 (i + 1) _ _ ?_ (by omega)
        rw [e]
        refine ⟨⟨rfl, rfl, rfl, rfl, trivial⟩, K0, hb, ?_⟩
        · omega
      · try simp only [br] at hc55
        have hjl : j = T.pings.length := by omega
        rw [hjl, List.take_length] at hc55
        have hop : ¬ x.peer.node = T.self ∧ T.pings.any (fun p => p.target == x.peer.node) = false := hc55
        refine Run.skip ?_
        refine Run.seq ?_
        refine Run.seq ?_
        refine Run.region ?_
        refine RL.val (x_moveI rfl) ?_
        refine RL.val (x_ltI rfl rfl) ?_
        refine RL.nil ?_
        refine Run.cond rfl (fun hc57 => ?_) (fun hc57 => ?_)
        · try simp only [br] at hc57
          refine Run.region ?_
          refine RL.val (x_moveI rfl) ?_
          refine RL.val (x_assignI rfl) ?_
          refine RL.nil ?_
          refine Run.seq ?_
          refine Run.region ?_
          refine RL.val (x_moveI rfl) ?_
          refine RL.val (x_ltI rfl rfl) ?_
          refine RL.val (x_moveB rfl) ?_
          refine RL.gval (wantedT rfl rfl rfl rfl) (fun hg => (x_moveI rfl)) ?_
          refine RL.gval (wantedT rfl rfl rfl rfl) (fun hg => (x_moveP rfl)) ?_
          refine RL.gval (wantedT rfl rfl rfl rfl) (fun hg => (x_nilCheck (gvr hg))) ?_
          refine RL.gval (wantedT rfl rfl rfl rfl) (fun hg => (x_fld (o' := 7) Try.underlying94 rfl ty3 rfl (gvr hg) rfl)) ?_
          refine RL.gval (wantedT rfl rfl rfl rfl) (fun hg => (x_ld (v := .int .i64 (T.target)) ty3 (gvr hg) rfl (hb.cl.field (i := 7) rfl))) ?_
          refine RL.gval (wantedT rfl rfl rfl rfl) (fun hg => (x_gtI (gvr hg) (gvr hg))) ?_
          refine RL.val (x_and rfl rfl rfl) ?_
          refine RL.nil ?_
          refine Run.cond rfl (fun hc68 => ?_) (fun hc68 => ?_)
          · try simp only [br] at hc68
            refine Run.region ?_
            refine RL.val (x_moveI rfl) ?_
            refine RL.val (x_assignI rfl) ?_
            refine RL.nil ?_
            refine Run.inBlock ?_
            refine Run.region ?_
            refine RL.val (x_moveI rfl) ?_
            refine RL.val (litI (c := ((i + 1 : Nat) : Int)) (x_add rfl rfl (by omega) (by omega)) rfl) ?_
            refine RL.val (x_assignI rfl) ?_
            refine RL.nil ?_
            have e := (tf_succ (f := nxtR T) (s := (-1, -1)) hx).trans (nxtR_go hop)
            rw [if_pos hc57, if_pos hc68] at e
            refine ih1 (i + 1) _ _ ?_ (by omega)
            rw [e]
            refine ⟨⟨rfl, rfl, rfl, rfl, trivial⟩, K0, hb, ?_⟩
            · omega
          · try simp only [br] at hc68
            refine Run.skip ?_
            refine Run.inBlock ?_
            refine Run.region ?_
            refine RL.val (x_moveI rfl) ?_
            refine RL.val (litI (c := ((i + 1 : Nat) : Int)) (x_add rfl rfl (by omega) (by omega)) rfl) ?_
            refine RL.val (x_assignI rfl) ?_
            refine RL.nil ?_
            have e := (tf_succ (f := nxtR T) (s := (-1, -1)) hx).trans (nxtR_go hop)
            rw [if_pos hc57, if_neg (by omega)] at e
            refine ih1 (i + 1) _ _ ?_ (by omega)
            rw [e]
            refine ⟨⟨rfl, rfl, rfl, rfl, trivial⟩, K0, hb, ?_⟩
            · omega
        · try simp only [br] at hc57
          refine Run.skip ?_
          refine Run.seq ?_
          refine Run.region ?_
          refine RL.val (x_moveI rfl) ?_
          refine RL.val (x_ltI rfl rfl) ?_
          refine RL.val (x_moveB rfl) ?_
          refine RL.gval (wantedT rfl rfl rfl rfl) (fun hg => (x_moveI rfl)) ?_
          refine RL.gval (wantedT rfl rfl rfl rfl) (fun hg => (x_moveP rfl)) ?_
          refine RL.gval (wantedT rfl rfl rfl rfl) (fun hg => (x_nilCheck (gvr hg))) ?_
          refine RL.gval (wantedT rfl rfl rfl rfl) (fun hg => (x_fld (o' := 7) Try.underlying94 rfl ty3 rfl (gvr hg) rfl)) ?_
          refine RL.gval (wantedT rfl rfl rfl rfl) (fun hg => (x_ld (v := .int .i64 (T.target)) ty3 (gvr hg) rfl (hb.cl.field (i := 7) rfl))) ?_
          refine RL.gval (wantedT rfl rfl rfl rfl) (fun hg => (x_gtI (gvr hg) (gvr hg))) ?_
          refine RL.val (x_and rfl rfl rfl) ?_
          refine RL.nil ?_
          refine Run.cond rfl (fun hc68 => ?_) (fun hc68 => ?_)
          · try simp only [br] at hc68
            refine Run.region ?_
            refine RL.val (x_moveI rfl) ?_
            refine RL.val (x_assignI rfl) ?_
            refine RL.nil ?_
            refine Run.inBlock ?_
            refine Run.region ?_
            refine RL.val (x_moveI rfl) ?_
            refine RL.val (litI (c := ((i + 1 : Nat) : Int)) (x_add rfl rfl (by omega) (by omega)) rfl) ?_
            refine RL.val (x_assignI rfl) ?_
            refine RL.nil ?_
            have e := (tf_succ (f := nxtR T) (s := (-1, -1)) hx).trans (nxtR_go hop)
            rw [if_neg (by omega), if_pos hc68] at e
            refine ih1 (i + 1) _ _ ?_ (by omega)
            rw [e]
            refine ⟨⟨rfl, rfl, rfl, rfl, trivial⟩, K0, hb, ?_⟩
            · omega
          · try simp only [br] at hc68
            refine Run.skip ?_
            refine Run.inBlock ?_
            refine Run.region ?_
            refine RL.val (x_moveI rfl) ?_
            refine RL.val (litI (c := ((i + 1 : Nat) : Int)) (x_add rfl rfl (by omega) (by omega)) rfl) ?_
            refine RL.val (x_assignI rfl) ?_
            refine RL.nil ?_
            have e := (tf_succ (f := nxtR T) (s := (-1, -1)) hx).trans (nxtR_go hop)
            rw [if_neg (by omega), if_neg (by omega)] at e
            refine ih1 (i + 1) _ _ ?_ (by omega)
            rw [e]
            refine ⟨⟨rfl, rfl, rfl, rfl, trivial⟩, K0, hb, ?_⟩
            · omega
  · try simp only [br] at hc15
    refine Run.exit rfl ?_
    refine Run.seq ?_
    refine Run.seq ?_
    refine Run.region ?_
    refine RL.val (x_moveI rfl) ?_
    refine RL.val (x_geI rfl rfl) ?_
    refine RL.nil ?_
    refine Run.cond rfl (fun hc71 => ?_) (fun hc71 => ?_)
    · try simp only [br] at hc71
      refine Run.seq ?_
      refine Run.region ?_
      refine RL.val (x_moveI rfl) ?_
      refine RL.val (x_assignI rfl) ?_
      refine RL.nil ?_
      refine Run.ret1 (v := .int .i64 ((tf (nxtR T) (-1, -1) (knownL T.l) i).2)) Try.func53 rfl rfl ?_
      obtain hil : i = (knownL T.l).length := by omega
      have hna := nxtR_all ok
      rw [← hil] at hna
      exact ⟨_, rfl, by rw [hna]; simp only; rw [if_pos hc71], K0⟩
    · try simp only [br] at hc71
      refine Run.skip ?_
      refine Run.seq ?_
      refine Run.region ?_
      refine RL.val (x_moveI rfl) ?_
      refine RL.val (x_assignI rfl) ?_
      refine RL.nil ?_
      refine Run.ret1 (v := .int .i64 ((tf (nxtR T) (-1, -1) (knownL T.l) i).1)) Try.func53 rfl rfl ?_
      obtain hil : i = (knownL T.l).length := by omega
      have hna := nxtR_all ok
      rw [← hil] at hna
      exact ⟨_, rfl, by rw [hna]; simp only; rw [if_neg (by omega)], K0⟩

end Go.Proofs.Ytagfdmdajmkddaa
