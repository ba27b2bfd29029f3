/-
  The reference's table: walks.
-/
import Derived.Test.YtagfdmdajmkddaaRows
import Derived.Test.YtagfdmdajmkddaaLm
namespace Go.Proofs.Ytagfdmdajmkddaa
attribute [local irreducible] St1 RL RA RT RT1 Run

open Sa
theorem pass_nev {n : Int} {T : Tab} {t : Int} (h : Nev n T) : Nev n (passT T t) := ⟨h.self, h.own, h.far⟩
theorem learn_nev {n : Int} {T : Tab} {p : Peer} (h : Nev n T) (hn : p.node ≠ n) (h0 : 0 ≤ p.node) (h1 : 0 ≤ n) : Nev n (learnT T p) := ⟨h.self, own_set h.own (by omega), h.far⟩
theorem ty90 : Ty Try.prog 90 4 32 (.agg #[.int .i64 (0), .int .i64 (0), .int .i64 (0), .int .i64 (0)]) true := ty_of (by kernel_rfl) (by kernel_rfl)
theorem ty91 : Ty Try.prog 91 1 24 (.slice (none) (0) (0)) false := ty_of (by kernel_rfl) (by kernel_rfl)
theorem en49 : Enters Try.prog 49 := enters_of Try.func49 rfl (by kernel_rfl)

set_option maxRecDepth 100000 in
set_option maxHeartbeats 4000000 in
theorem node_ (n : Int) (w : World) :
    Calls Try.prog 55 #[.int .i64 (n)] w (Ret (fun v w' => v = .bool (decide (0 ≤ n) && decide (n < 8)) ∧ Ext w w')) := by
  refine calls_run (n := 9) Try.func55 rfl rfl rfl ?_
  refine Run.seq ?_
  refine Run.region ?_
  refine RL.val (x_assignB rfl) ?_
  refine RL.nil ?_
  refine Run.seq ?_
  refine Run.region ?_
  refine RL.val (x_moveI rfl) ?_
  refine RL.val (x_geI rfl rfl) ?_
  refine RL.val (x_moveB rfl) ?_
  refine RL.gval (wantedT rfl rfl rfl rfl) (fun hg => (x_moveI rfl)) ?_
  refine RL.gval (wantedT rfl rfl rfl rfl) (fun hg => (x_ltI (gvr hg) rfl)) ?_
  refine RL.val (x_and rfl rfl rfl) ?_
  refine RL.val (x_assignB rfl) ?_
  refine RL.nil ?_
  refine Run.ret1 (v := .bool ((decide (0 ≤ n)) && (decide (n < 8)))) Try.func55 rfl rfl ?_
  exact ⟨_, rfl, rfl, (Keeps.refl _ w)⟩

set_option maxRecDepth 100000 in
set_option maxHeartbeats 4000000 in
theorem sendR_ (b : Nat) (aL : Option Addr) (cL : Nat) (aP : Option Addr) (cP : Nat) (T : Tab) (to rq ow n : Int) (w : World) (hb : Blk w b [.int .i64 (T.self), .int .i64 (T.now), .slice (aL) ((knownL T.l).length) (cL), .slice (aP) (T.pings.length) (cP), .int .i64 (T.req), .bool (T.begun), .int .i64 (T.last), .int .i64 (T.target)] 94) (hsL : SlOf w aL (knownL T.l)) (hsP : SlOf w aP T.pings) (ok : TabOk T) :
    Calls Try.prog 54 #[.pointer (some ⟨b, 0, none⟩), .int .i64 (to), .int .i64 (rq), .int .i64 (ow), .int .i64 (n)] w (Ret (fun v w' => v = Enc.val (mkMsg 6 T.self to rq ow n) ∧ Ext w w')) := by
  have hkl := knownL_len T.l
  have hl8 := ok.len
  refine calls_run (n := 20) Try.func54 rfl rfl rfl ?_
  refine Run.seq ?_
  refine Run.region ?_
  refine RL.st rfl <| St1.alloc ty61 ?_
  intro b_1 w_2 hl_5 hb_4 K_3
  replace hb_4 : Blk w_2 b_1 [.int .i64 (0), .int .i64 (0), .int .i64 (0), .int .i64 (0), .string (⟨#[]⟩), .slice (none) (0) (0), .slice (none) (0) (0), .slice (none) (0) (0), .int .i64 (0), .int .i64 (0), .int .i64 (0), .int .i64 (0), .int .i64 (0), .int .i64 (0), .slice (none) (0) (0), .slice (none) (0) (0), .slice (none) (0) (0)] 61 := hb_4
  have ne_6 : b < b_1 := Nat.lt_of_lt_of_le hb.lt hl_5
  have : w.heap.size ≤ b_1 := hl_5
  clear hl_5
  replace hb := hb.ext K_3
  have K0 := (K_3 : Ext w _)
  refine RL.nil ?_
  refine Run.seq ?_
  refine Run.region ?_
  refine RL.val (x_moveP rfl) ?_
  refine RL.val (x_nilCheck rfl) ?_
  refine RL.val (x_fld (o' := 0) Try.underlying94 rfl ty3 rfl rfl rfl) ?_
  refine RL.val (x_ld (v := .int .i64 (T.self)) ty3 rfl rfl (hb.cl.field (i := 0) rfl)) ?_
  refine RL.val (x_moveI rfl) ?_
  refine RL.val (x_moveI rfl) ?_
  refine RL.val (x_moveI rfl) ?_
  refine RL.val (x_moveI rfl) ?_
  refine RL.val (x_build (cells := #[.int .i64 (6), .int .i64 (T.self), .int .i64 (to), .int .i64 (rq), .string (⟨#[]⟩), .slice (none) (0) (0), .slice (none) (0) (0), .slice (none) (0) (0), .int .i64 (ow), .int .i64 (0), .int .i64 (n), .int .i64 (0), .int .i64 (0), .int .i64 (0), .slice (none) (0) (0), .slice (none) (0) (0), .slice (none) (0) (0)]) (by kernel_rfl)) ?_
  refine RL.st rfl <| St1.store (v := .agg #[.int .i64 (6), .int .i64 (T.self), .int .i64 (to), .int .i64 (rq), .string (⟨#[]⟩), .slice (none) (0) (0), .slice (none) (0) (0), .slice (none) (0) (0), .int .i64 (ow), .int .i64 (0), .int .i64 (n), .int .i64 (0), .int .i64 (0), .int .i64 (0), .slice (none) (0) (0), .slice (none) (0) (0), .slice (none) (0) (0)]) ty61 rfl rfl rfl (by simp [Value.cells, Value.oneCell']) hb_4 (by simp) ?_
  intro w_7 hb_4_ K_8
  have hb_4' : Blk w_7 b_1 [.int .i64 (6), .int .i64 (T.self), .int .i64 (to), .int .i64 (rq), .string (⟨#[]⟩), .slice (none) (0) (0), .slice (none) (0) (0), .slice (none) (0) (0), .int .i64 (ow), .int .i64 (0), .int .i64 (n), .int .i64 (0), .int .i64 (0), .int .i64 (0), .slice (none) (0) (0), .slice (none) (0) (0), .slice (none) (0) (0)] 61 := hb_4_
  clear hb_4_
  replace hb := hb.keep K_8 (by simp only [one]; omega)
  replace K0 := K0.new K_8 (fun x hx => by simp only [one] at hx; omega)
  replace hb_4 := hb_4'
  clear hb_4'
  refine RL.nil ?_
  refine Run.retC (cs := #[.int .i64 (6), .int .i64 (T.self), .int .i64 (to), .int .i64 (rq), .string (⟨#[]⟩), .slice (none) (0) (0), .slice (none) (0) (0), .slice (none) (0) (0), .int .i64 (ow), .int .i64 (0), .int .i64 (n), .int .i64 (0), .int .i64 (0), .int .i64 (0), .slice (none) (0) (0), .slice (none) (0) (0), .slice (none) (0) (0)]) Try.func54 rfl ty61 rfl rfl hb_4.cl ?_
  exact ⟨_, rfl, rfl, K0⟩

set_option maxRecDepth 100000 in
set_option maxHeartbeats 4000000 in
theorem findR_ (b : Nat) (aL : Option Addr) (cL : Nat) (aP : Option Addr) (cP : Nat) (T : Tab) (n : Int) (w : World) (hb : Blk w b [.int .i64 (T.self), .int .i64 (T.now), .slice (aL) ((knownL T.l).length) (cL), .slice (aP) (T.pings.length) (cP), .int .i64 (T.req), .bool (T.begun), .int .i64 (T.last), .int .i64 (T.target)] 94) (hsL : SlOf w aL (knownL T.l)) (hsP : SlOf w aP T.pings) (ok : TabOk T) :
    Calls Try.prog 49 #[.pointer (some ⟨b, 0, none⟩), .int .i64 (n)] w (Ret (fun v w' => v = .int .i64 (findI (fun x : KnownM => x.peer.node == n) (knownL T.l)) ∧ Ext w w')) := by
  have hkl := knownL_len T.l
  have hl8 := ok.len
  refine calls_run (n := 27) Try.func49 rfl rfl rfl ?_
  refine Run.seq ?_
  refine Run.region ?_
  refine RL.val (x_assignI rfl) ?_
  refine RL.nil ?_
  refine Run.seq ?_
  refine Run.seq ?_
  refine Run.region ?_
  refine RL.val (x_assignI rfl) ?_
  refine RL.nil ?_
  refine Run.block ?_
  refine Run.loop (ι := Nat) (fun i ρ' w' => Holds ρ' [(0, .pointer (some ⟨b, 0, none⟩)), (1, .int .i64 (n)), (5, .int .i64 (((i : Nat) : Int)))] ∧ Ext w w' ∧ (Blk w' b [.int .i64 (T.self), .int .i64 (T.now), .slice (aL) ((knownL T.l).length) (cL), .slice (aP) (T.pings.length) (cP), .int .i64 (T.req), .bool (T.begun), .int .i64 (T.last), .int .i64 (T.target)] 94) ∧ (i ≤ (knownL T.l).length) ∧ (NoB (fun x : KnownM => x.peer.node == n) (knownL T.l) i)) (fun i => (knownL T.l).length - i) 0 ?_ ?_
  · refine ⟨⟨rfl, rfl, rfl, trivial⟩, (Keeps.refl _ w), hb, ?_, ?_⟩
    · omega
    · exact NoB.zero _ _
  clear hb
  rintro i ρ_3 w_1 ⟨hH_2, K0, hb, hi, hno⟩ ih1
  obtain ⟨ρ₀, rfl⟩ := hH_2.ex
  clear hH_2
  refine Run.seq ?_
  refine Run.seq ?_
  refine Run.region ?_
  refine RL.val (x_moveI rfl) ?_
  refine RL.val (x_moveP rfl) ?_
  refine RL.val (x_nilCheck rfl) ?_
  refine RL.val (x_fld (o' := 2) Try.underlying94 rfl ty91 rfl rfl rfl) ?_
  refine RL.val (x_ld (v := .slice (aL) ((knownL T.l).length) (cL)) ty91 rfl rfl (hb.cl.field (i := 2) rfl)) ?_
  refine RL.val (x_lenSl Try.underlying91 rfl) ?_
  refine RL.val (x_ltI rfl rfl) ?_
  refine RL.nil ?_
  refine Run.cond rfl (fun hc12 => ?_) (fun hc12 => ?_)
  · try simp only [br] at hc12
    refine Run.skip ?_
    refine Run.seq ?_
    refine Run.block ?_
    refine Run.seq ?_
    refine Run.region ?_
    refine RL.val (x_moveP rfl) ?_
    refine RL.val (x_nilCheck rfl) ?_
    refine RL.val (x_fld (o' := 2) Try.underlying94 rfl ty91 rfl rfl rfl) ?_
    refine RL.val (x_ld (v := .slice (aL) ((knownL T.l).length) (cL)) ty91 rfl rfl (hb.cl.field (i := 2) rfl)) ?_
    refine RL.val (x_moveI rfl) ?_
    obtain ⟨b_4, o_5, x, hx, ha_6, hc_7⟩ := hsL.el (i := i) (by first | omega | (simp only [List.length_set]; omega))
    have hc_7_lt := hc_7.lt
    replace hc_7 := hc_7.ext K0
    refine RL.val (x_idxN Try.underlying91 ty90 rfl rfl ha_6 (by first | omega | (simp only [List.length_set]; omega))) ?_
    refine RL.val (x_fld (o' := o_5 + i * 4 + 0) Try.underlying90 rfl ty23 rfl rfl rfl) ?_
    refine RL.val (x_fld (o' := o_5 + i * 4 + 0 + 0) Try.underlying23 rfl ty3 rfl rfl rfl) ?_
    refine RL.val (x_ld ty3 rfl rfl (hc_7.field (i := 0) rfl)) ?_
    refine RL.val (x_moveI rfl) ?_
    refine RL.val (x_eqI rfl rfl) ?_
    refine RL.nil ?_
    refine Run.cond rfl (fun hc25 => ?_) (fun hc25 => ?_)
    · try simp only [br] at hc25
      refine Run.seq ?_
      refine Run.region ?_
      refine RL.val (x_moveI rfl) ?_
      refine RL.val (x_assignI rfl) ?_
      refine RL.nil ?_
      refine Run.ret1 (v := .int .i64 (((i : Nat) : Int))) Try.func49 rfl rfl ?_
      exact ⟨_, rfl, by rw [findI_at hx (by simpa using hc25) hno], K0⟩
    · try simp only [br] at hc25
      refine Run.skip ?_
      refine Run.inBlock ?_
      refine Run.region ?_
      refine RL.val (x_moveI rfl) ?_
      refine RL.val (litI (c := ((i + 1 : Nat) : Int)) (x_add rfl rfl (by omega) (by omega)) rfl) ?_
      refine RL.val (x_assignI rfl) ?_
      refine RL.nil ?_
      refine ih1 (i + 1) _ _ ?_ (by omega)
      refine ⟨⟨rfl, rfl, rfl, trivial⟩, K0, hb, ?_, ?_⟩
      · omega
      · exact hno.step hx (by simpa using hc25)
  · try simp only [br] at hc12
    refine Run.exit rfl ?_
    refine Run.seq ?_
    refine Run.region ?_
    refine RL.val (x_assignI rfl) ?_
    refine RL.nil ?_
    refine Run.ret1 (v := .int .i64 (-1)) Try.func49 rfl rfl ?_
    exact ⟨_, rfl, by rw [findI_no hno (by omega)], K0⟩

set_option maxRecDepth 100000 in
set_option maxHeartbeats 4000000 in
theorem peersR_ (b : Nat) (aL : Option Addr) (cL : Nat) (aP : Option Addr) (cP : Nat) (T : Tab)  (w : World) (hb : Blk w b [.int .i64 (T.self), .int .i64 (T.now), .slice (aL) ((knownL T.l).length) (cL), .slice (aP) (T.pings.length) (cP), .int .i64 (T.req), .bool (T.begun), .int .i64 (T.last), .int .i64 (T.target)] 94) (hsL : SlOf w aL (knownL T.l)) (hsP : SlOf w aP T.pings) (ok : TabOk T) :
    Calls Try.prog 60 #[.pointer (some ⟨b, 0, none⟩)] w (Ret (fun v w' => ∃ a' c', v = .slice a' (peersL T.l).length c' ∧ OwnSl w' 23 a' c' (peersL T.l) ∧ (∀ b, own a' b → w.heap.size ≤ b) ∧ Ext w w')) := by
  have hkl := knownL_len T.l
  have hl8 := ok.len
  refine calls_run (n := 26) Try.func60 rfl rfl rfl ?_
  refine Run.seq ?_
  refine Run.region ?_
  refine RL.val (x_assignSl rfl) ?_
  refine RL.nil ?_
  refine Run.seq ?_
  refine Run.region ?_
  refine RL.val (x_assignSl rfl) ?_
  refine RL.nil ?_
  refine Run.seq ?_
  refine Run.seq ?_
  refine Run.region ?_
  refine RL.val (x_assignI rfl) ?_
  refine RL.nil ?_
  refine Run.block ?_
  refine Run.loop (ι := Nat) (fun i ρ' w' => ∃ ah : Option Addr, ∃ ch : Nat, Holds ρ' [(0, .pointer (some ⟨b, 0, none⟩)), (3, .slice (ah) ((((knownL T.l).take i).map (·.peer)).length) (ch)), (4, .int .i64 (((i : Nat) : Int)))] ∧ Ext w w' ∧ (Blk w' b [.int .i64 (T.self), .int .i64 (T.now), .slice (aL) ((knownL T.l).length) (cL), .slice (aP) (T.pings.length) (cP), .int .i64 (T.req), .bool (T.begun), .int .i64 (T.last), .int .i64 (T.target)] 94) ∧ (OwnSl w' 23 ah ch (((knownL T.l).take i).map (·.peer))) ∧ (¬ own ah b) ∧ (∀ q_, own ah q_ → w.heap.size ≤ q_) ∧ (i ≤ (knownL T.l).length)) (fun i => (knownL T.l).length - i) 0 ?_ ?_
  · rw [List.take_zero, List.map_nil]
    have ho_6 := OwnSl.nil (α := Peer) w 23
    refine ⟨_, _, ⟨rfl, rfl, rfl, trivial⟩, (Keeps.refl _ w), hb, ho_6, (own_none b), (fun q_ h1 => absurd h1 (own_none q_)), ?_⟩
    · omega
  clear hb
  rintro i ρ_7 w_1 ⟨ah, ch, hH_2, K0, hb, ho_3, pr_4, pr_5, hi⟩ ih1
  obtain ⟨ρ₀, rfl⟩ := hH_2.ex
  clear hH_2
  refine Run.seq ?_
  refine Run.seq ?_
  refine Run.region ?_
  refine RL.val (x_moveI rfl) ?_
  refine RL.val (x_moveP rfl) ?_
  refine RL.val (x_nilCheck rfl) ?_
  refine RL.val (x_fld (o' := 2) Try.underlying94 rfl ty91 rfl rfl rfl) ?_
  refine RL.val (x_ld (v := .slice (aL) ((knownL T.l).length) (cL)) ty91 rfl rfl (hb.cl.field (i := 2) rfl)) ?_
  refine RL.val (x_lenSl Try.underlying91 rfl) ?_
  refine RL.val (x_ltI rfl rfl) ?_
  refine RL.nil ?_
  refine Run.cond rfl (fun hc11 => ?_) (fun hc11 => ?_)
  · try simp only [br] at hc11
    refine Run.skip ?_
    refine Run.seq ?_
    refine Run.block ?_
    have hlen : (((knownL T.l).take i).map (·.peer)).length ≤ i := by simp; omega
    refine Run.region ?_
    refine RL.val (x_moveSl rfl) ?_
    refine RL.val (x_moveP rfl) ?_
    refine RL.val (x_nilCheck rfl) ?_
    refine RL.val (x_fld (o' := 2) Try.underlying94 rfl ty91 rfl rfl rfl) ?_
    refine RL.val (x_ld (v := .slice (aL) ((knownL T.l).length) (cL)) ty91 rfl rfl (hb.cl.field (i := 2) rfl)) ?_
    refine RL.val (x_moveI rfl) ?_
    obtain ⟨b_8, o_9, x, hx, ha_10, hc_11⟩ := hsL.el (i := i) (by first | omega | (simp only [List.length_set]; omega))
    have hc_11_lt := hc_11.lt
    replace hc_11 := hc_11.ext K0
    refine RL.val (x_idxN Try.underlying91 ty90 rfl rfl ha_10 (by first | omega | (simp only [List.length_set]; omega))) ?_
    refine RL.val (x_fld (o' := o_9 + i * 4 + 0) Try.underlying90 rfl ty23 rfl rfl rfl) ?_
    refine RL.val (x_lds (cs := #[.int .i64 (((x).peer).node), .int .i64 (((x).peer).inc), .int .i64 (((x).peer).status)]) ty23 rfl rfl (hc_11.drop 0 3)) ?_
    refine RL.st rfl <| St1.buildSlice ([(x).peer] : List Peer) Try.underlying32 ty23 rfl rfl (by first | decide | (simp [Enc.size])) ?_
    intro b_14 w_15 hl_18 ho_17 K_16
    have pr_19 : ¬ own (some ⟨b_14, 0, none⟩) b := notNew (ge_new hl_18) hb.lt
    have pr_20 : ∀ q_, own (some ⟨b_14, 0, none⟩) q_ → ¬ own ah q_ := apartNew (ge_new hl_18) ho_3.own_lt
    have pg_21 : ∀ q_, own (some ⟨b_14, 0, none⟩) q_ → w.heap.size ≤ q_ := fun q_ h => Nat.le_trans K0.size ((ge_new hl_18) q_ h)
    clear hl_18
    replace hb := hb.ext K_16
    replace ho_3 := ho_3.ext K_16
    replace hc_11 := hc_11.ext K_16
    replace K0 := K0.ext K_16
    refine RL.st rfl <| St1.append (xs := ((knownL T.l).take i).map (·.peer)) (ys := ([(x).peer] : List Peer)) Try.underlying32 ty23 rfl rfl rfl ho_3 ho_17.sl (by first | omega | (simp only [lr]; omega)) (by decide) ?_
    intro a_22 c_23 w_24 ho_25 K_26 hm_27 hrm_28
    have pr_29 : ¬ own a_22 b := hm_27.not pr_4 hb.lt
    have pr_30 : ∀ q_, own a_22 q_ → ¬ own (some ⟨b_14, 0, none⟩) q_ := hm_27.apart (fun q_ h1 h2 => pr_20 q_ h2 h1) ho_17.own_lt
    have pg_31 : ∀ q_, own a_22 q_ → w.heap.size ≤ q_ := hm_27.ge pr_5 K0.size
    replace hb := hb.keep K_26 pr_4
    replace hc_11 := hc_11.keep K_26 (fun h => absurd (pr_5 _ h) (by omega))
    replace ho_17 := ho_17.keepO K_26 pr_20
    replace K0 := K0.new K_26 pr_5
    clear hm_27
    clear hrm_28
    refine RL.val (x_assignSl rfl) ?_
    refine RL.nil ?_
    refine Run.inBlock ?_
    refine Run.region ?_
    refine RL.val (x_moveI rfl) ?_
    refine RL.val (litI (c := ((i + 1 : Nat) : Int)) (x_add rfl rfl (by omega) (by omega)) rfl) ?_
    refine RL.val (x_assignI rfl) ?_
    refine RL.nil ?_
    have e : ((knownL T.l).take (i + 1)).map (·.peer) = ((knownL T.l).take i).map (·.peer) ++ [x.peer] := by obtain ⟨h1, rfl⟩ := List.getElem?_eq_some_iff.1 hx; rw [List.take_succ_eq_append_getElem h1, List.map_append]; rfl
    refine ih1 (i + 1) _ _ ?_ (by omega)
    rw [e]
    refine ⟨_, _, ⟨rfl, rfl, rfl, trivial⟩, K0, hb, ho_25, pr_29, pg_31, ?_⟩
    · omega
  · try simp only [br] at hc11
    refine Run.exit rfl ?_
    refine Run.seq ?_
    refine Run.region ?_
    refine RL.val (x_moveSl rfl) ?_
    refine RL.val (x_assignSl rfl) ?_
    refine RL.nil ?_
    refine Run.ret1 (v := .slice (ah) ((((knownL T.l).take i).map (·.peer)).length) (ch)) Try.func60 rfl rfl ?_
    obtain rfl : i = (knownL T.l).length := by omega
    rw [List.take_length] at *
    exact ⟨_, rfl, ah, ch, rfl, ho_3, pr_5, K0⟩

set_option maxRecDepth 100000 in
set_option maxHeartbeats 4000000 in
theorem statusR_ (b : Nat) (aL : Option Addr) (cL : Nat) (aP : Option Addr) (cP : Nat) (T : Tab) (n : Int) (w : World) (hb : Blk w b [.int .i64 (T.self), .int .i64 (T.now), .slice (aL) ((knownL T.l).length) (cL), .slice (aP) (T.pings.length) (cP), .int .i64 (T.req), .bool (T.begun), .int .i64 (T.last), .int .i64 (T.target)] 94) (hsL : SlOf w aL (knownL T.l)) (hsP : SlOf w aP T.pings) (ok : TabOk T) :
    Calls Try.prog 61 #[.pointer (some ⟨b, 0, none⟩), .int .i64 (n)] w (Ret (fun v w' => v = .int .i64 (statusL T.l n) ∧ Ext w w')) := by
  have hkl := knownL_len T.l
  have hl8 := ok.len
  refine calls_run (n := 20) Try.func61 rfl rfl rfl ?_
  refine Run.seq ?_
  refine Run.region ?_
  refine RL.val (x_assignI rfl) ?_
  refine RL.nil ?_
  refine Run.seq ?_
  refine Run.region ?_
  refine RL.val (x_moveP rfl) ?_
  refine RL.val (x_moveI rfl) ?_
  refine RL.st rfl <| St1.call (vals := [.pointer (some ⟨b, 0, none⟩), .int .i64 (n)]) en49 rfl (findR_ _ _ _ _ _ T n _ hb hsL hsP ok) ?_
  rintro _ w_1 ⟨rfl, K_2⟩
  replace hb := hb.ext K_2
  have K0 := (K_2 : Ext w _)
  refine RL.val (x_assignI rfl) ?_
  refine RL.nil ?_
  refine Run.seq ?_
  refine Run.seq ?_
  refine Run.region ?_
  refine RL.val (x_moveI rfl) ?_
  refine RL.val (x_ltI rfl rfl) ?_
  refine RL.nil ?_
  refine Run.cond rfl (fun hc10 => ?_) (fun hc10 => ?_)
  · try simp only [br] at hc10
    refine Run.seq ?_
    refine Run.region ?_
    refine RL.val (x_assignI rfl) ?_
    refine RL.nil ?_
    refine Run.ret1 (v := .int .i64 (0)) Try.func61 rfl rfl ?_
    exact ⟨_, rfl, by rcases statusL_find ok n with h | ⟨k, _, _, _, _, h, _⟩ <;> first | rw [h.2] | omega, K0⟩
  · try simp only [br] at hc10
    obtain ⟨k, hn0, hn8, hk, hks, hfi, hsl⟩ := (statusL_find ok n).resolve_left (fun h => absurd h.1 (by omega))
    rw [hfi]
    have hkx := known_get hk hks
    have hpl : posL T.l (n).toNat < (knownL T.l).length := (List.getElem?_eq_some_iff.1 hkx).1
    refine Run.skip ?_
    refine Run.seq ?_
    refine Run.region ?_
    refine RL.val (x_moveP rfl) ?_
    refine RL.val (x_nilCheck rfl) ?_
    refine RL.val (x_fld (o' := 2) Try.underlying94 rfl ty91 rfl rfl rfl) ?_
    refine RL.val (x_ld (v := .slice (aL) ((knownL T.l).length) (cL)) ty91 rfl rfl (hb.cl.field (i := 2) rfl)) ?_
    refine RL.val (x_moveI rfl) ?_
    obtain ⟨b_3, o_4, x_7, hx_8, ha_5, hc_6⟩ := hsL.el (i := posL T.l (n).toNat) (by first | omega | (simp only [List.length_set]; omega))
    have hc_6_lt := hc_6.lt
    replace hc_6 := hc_6.ext K0
    obtain rfl : k = x_7 := Option.some.inj (hkx.symm.trans hx_8)
    refine RL.val (x_idxN Try.underlying91 ty90 rfl rfl ha_5 (by first | omega | (simp only [List.length_set]; omega))) ?_
    refine RL.val (x_fld (o' := o_4 + posL T.l (n).toNat * 4 + 0) Try.underlying90 rfl ty23 rfl rfl rfl) ?_
    refine RL.val (x_fld (o' := o_4 + posL T.l (n).toNat * 4 + 0 + 2) Try.underlying23 rfl ty3 rfl rfl rfl) ?_
    refine RL.val (x_ld ty3 rfl rfl (hc_6.field (i := 2) rfl)) ?_
    refine RL.val (x_assignI rfl) ?_
    refine RL.nil ?_
    refine Run.ret1 (v := .int .i64 (((k).peer).status)) Try.func61 rfl rfl ?_
    exact ⟨_, rfl, by rw [hsl], K0⟩

set_option maxRecDepth 100000 in
set_option maxHeartbeats 4000000 in
theorem passR_ (b : Nat) (aL : Option Addr) (cL : Nat) (aP : Option Addr) (cP : Nat) (T : Tab) (t : Int) (w : World) (hR : RTabAt w b aL cL aP cP T) (ht : t ≤ 9223372036854775807) :
    Calls Try.prog 48 #[.pointer (some ⟨b, 0, none⟩), .int .i64 (t)] w (Ret (fun v w' => ∃ aL' cL' aP' cP' , v = .tuple #[] ∧ RTabAt w' b aL' cL' aP' cP' (passT T t) ∧ MovedS w (rtabS b aL aP) (rtabS b aL' aP') ∧ Keeps (rtabS b aL aP) w w')) := by
  obtain ⟨hb, hoL, hoP, hapL, hapP, hapLP, ok, nv⟩ := hR
  have hkl := knownL_len T.l
  have hl8 := ok.len
  refine calls_run (n := 14) Try.func48 rfl rfl rfl ?_
  refine Run.seq ?_
  refine Run.region ?_
  refine RL.val (x_moveI rfl) ?_
  refine RL.val (x_moveP rfl) ?_
  refine RL.val (x_nilCheck rfl) ?_
  refine RL.val (x_fld (o' := 1) Try.underlying94 rfl ty3 rfl rfl rfl) ?_
  refine RL.val (x_ld (v := .int .i64 (T.now)) ty3 rfl rfl (hb.cl.field (i := 1) rfl)) ?_
  refine RL.val (x_gtI rfl rfl) ?_
  refine RL.nil ?_
  refine Run.cond rfl (fun hc9 => ?_) (fun hc9 => ?_)
  · try simp only [br] at hc9
    refine Run.region ?_
    refine RL.val (x_moveP rfl) ?_
    refine RL.val (x_moveI rfl) ?_
    refine RL.val (x_nilCheck rfl) ?_
    refine RL.val (x_fld (o' := 1) Try.underlying94 rfl ty3 rfl rfl rfl) ?_
    refine RL.st rfl <| St1.store (v := .int .i64 (t)) ty3 rfl rfl rfl (by simp [Value.cells, Value.oneCell']) hb (by simp) ?_
    intro w_1 hb_ K_2
    have hb' : Blk w_1 b [.int .i64 (T.self), .int .i64 (t), .slice (aL) ((knownL T.l).length) (cL), .slice (aP) (T.pings.length) (cP), .int .i64 (T.req), .bool (T.begun), .int .i64 (T.last), .int .i64 (T.target)] 94 := hb_
    clear hb_
    replace hoL := hoL.keepO K_2 (fun q_ hq_ eq_ => hapL (by simp only [one] at eq_; rw [← eq_]; exact hq_))
    replace hoP := hoP.keepO K_2 (fun q_ hq_ eq_ => hapP (by simp only [one] at eq_; rw [← eq_]; exact hq_))
    have K0 := (Keeps.refl (rtabS b aL aP) w).trans K_2 (fun x _ hx => by simp only [one] at hx; subst hx; exact (Or.inl rfl))
    replace hb := hb'
    clear hb'
    refine RL.nil ?_
    refine Run.fin0 Try.func48 rfl ?_
    rw [show t = max T.now t by omega] at hb
    have hR_3 : RTabAt w_1 b aL cL aP cP (passT T t) := ⟨hb, hoL, hoP, hapL, hapP, hapLP, (passT_ok ok ht), (pass_nev nv)⟩
    have pt_4 : ∀ q_, rtabS b aL aP q_ → q_ < w.heap.size → (rtabS b aL aP) q_ := (fun q_ h1 hlt => h1.elim (fun e => e ▸ (Or.inl rfl)) (fun h1 => h1.elim (fun h => (fun x h _ => Or.inr (Or.inl h)) q_ h hlt) (fun h => (fun x h _ => Or.inr (Or.inr h)) q_ h hlt)))
    clear hb hoL hoP
    exact ⟨_, rfl, aL, cL, aP, cP, rfl, hR_3, rtabMoved' (fun x hx hlt => pt_4 x (.inr (.inl hx)) hlt) (fun x hx hlt => pt_4 x (.inr (.inr hx)) hlt), K0⟩
  · try simp only [br] at hc9
    refine Run.skip ?_
    refine Run.fin0 Try.func48 rfl ?_
    rw [show T.now = max T.now t by omega] at hb
    have hR_5 : RTabAt w b aL cL aP cP (passT T t) := ⟨hb, hoL, hoP, hapL, hapP, hapLP, (passT_ok ok ht), (pass_nev nv)⟩
    have pt_6 : ∀ q_, rtabS b aL aP q_ → q_ < w.heap.size → (rtabS b aL aP) q_ := (fun q_ h1 hlt => h1.elim (fun e => e ▸ (Or.inl rfl)) (fun h1 => h1.elim (fun h => (fun x h _ => Or.inr (Or.inl h)) q_ h hlt) (fun h => (fun x h _ => Or.inr (Or.inr h)) q_ h hlt)))
    clear hb hoL hoP
    exact ⟨_, rfl, aL, cL, aP, cP, rfl, hR_5, rtabMoved' (fun x hx hlt => pt_6 x (.inr (.inl hx)) hlt) (fun x hx hlt => pt_6 x (.inr (.inr hx)) hlt), (Keeps.refl _ w)⟩

set_option maxRecDepth 100000 in
set_option maxHeartbeats 4000000 in
theorem learnR_ (b : Nat) (aL : Option Addr) (cL : Nat) (aP : Option Addr) (cP : Nat) (T : Tab) (p : Peer) (w : World) (hR : RTabAt w b aL cL aP cP T) (hp : 0 ≤ p.node ∧ p.node < 8) (hps : p.status ≠ 0) (hpn : p.node ≠ T.self) :
    Calls Try.prog 50 #[.pointer (some ⟨b, 0, none⟩), .agg #[.int .i64 ((p).node), .int .i64 ((p).inc), .int .i64 ((p).status)]] w (Ret (fun v w' => ∃ aL' cL' aP' cP' , v = .tuple #[] ∧ RTabAt w' b aL' cL' aP' cP' (learnT T p) ∧ MovedS w (rtabS b aL aP) (rtabS b aL' aP') ∧ Keeps (rtabS b aL aP) w w')) := by
  obtain ⟨hb, hoL, hoP, hapL, hapP, hapLP, ok, nv⟩ := hR
  have hkl := knownL_len T.l
  have hl8 := ok.len
  refine calls_run (n := 78) Try.func50 rfl rfl rfl ?_
  refine Run.seq ?_
  refine Run.region ?_
  refine RL.st rfl <| St1.box (v := .agg #[.int .i64 ((p).node), .int .i64 ((p).inc), .int .i64 ((p).status)]) rfl ?_
  intro b_1 w_2 hl_5 hb_4 K_3
  replace hb_4 : Blk w_2 b_1 [.int .i64 ((p).node), .int .i64 ((p).inc), .int .i64 ((p).status)] 23 := hb_4
  have ne_6 : b < b_1 := Nat.lt_of_lt_of_le hb.lt hl_5
  have pr_7 : ¬ own aL b_1 := fun h => absurd (hoL.own_lt _ h) (by omega)
  have pr_8 : ¬ own aP b_1 := fun h => absurd (hoP.own_lt _ h) (by omega)
  have : w.heap.size ≤ b_1 := hl_5
  clear hl_5
  replace hb := hb.ext K_3
  replace hoL := hoL.ext K_3
  replace hoP := hoP.ext K_3
  have K0 := (K_3 : Ext w _).to (S := (rtabS b aL aP))
  refine RL.nil ?_
  refine Run.seq ?_
  refine Run.region ?_
  refine RL.val (x_assignSl rfl) ?_
  refine RL.nil ?_
  refine Run.seq ?_
  refine Run.region ?_
  refine RL.val (x_assignB rfl) ?_
  refine RL.nil ?_
  refine Run.seq ?_
  refine Run.seq ?_
  refine Run.region ?_
  refine RL.val (x_assignI rfl) ?_
  refine RL.nil ?_
  refine Run.block ?_
  refine Run.loop (ι := Nat) (fun i ρ' w' => ∃ an : Option Addr, ∃ cn : Nat, Holds ρ' [(0, .pointer (some ⟨b, 0, none⟩)), (3, .pointer (some ⟨b_1, 0, none⟩)), (4, .slice (an) (((tf (lr1 ⟨p, T.now⟩) ([], false) (knownL T.l) i).1).length) (cn)), (5, .bool ((tf (lr1 ⟨p, T.now⟩) ([], false) (knownL T.l) i).2)), (6, .int .i64 (((i : Nat) : Int)))] ∧ Keeps (rtabS b aL aP) w w' ∧ (Blk w' b [.int .i64 (T.self), .int .i64 (T.now), .slice (aL) ((knownL T.l).length) (cL), .slice (aP) (T.pings.length) (cP), .int .i64 (T.req), .bool (T.begun), .int .i64 (T.last), .int .i64 (T.target)] 94) ∧ (Blk w' b_1 [.int .i64 ((p).node), .int .i64 ((p).inc), .int .i64 ((p).status)] 23) ∧ (OwnSl w' 90 (aL) (cL) (knownL T.l)) ∧ (OwnSl w' 98 (aP) (cP) (T.pings)) ∧ (OwnSl w' 90 an cn ((tf (lr1 ⟨p, T.now⟩) ([], false) (knownL T.l) i).1)) ∧ (¬ own an b) ∧ (¬ own an b_1) ∧ (∀ q_, own an q_ → ¬ own aL q_) ∧ (∀ q_, own an q_ → ¬ own aP q_) ∧ (∀ q_, own an q_ → q_ < w.heap.size → (rtabS b aL aP) q_) ∧ (∀ q_, own an q_ → w.heap.size ≤ q_) ∧ (i ≤ (knownL T.l).length)) (fun i => (knownL T.l).length - i) 0 ?_ ?_
  · rw [tf_zero]
    have ho_18 := OwnSl.nil (α := KnownM) w_2 90
    refine ⟨_, _, ⟨rfl, rfl, rfl, rfl, rfl, trivial⟩, K0, hb, hb_4, hoL, hoP, ho_18, (own_none b), (own_none b_1), (fun q_ h1 _ => own_none q_ h1), (fun q_ h1 _ => own_none q_ h1), (fun q_ h1 _ => absurd h1 (own_none q_)), (fun q_ h1 => absurd h1 (own_none q_)), ?_⟩
    · omega
  clear hb hoL hoP hb_4
  clear K0
  rintro i ρ_19 w_9 ⟨an, cn, hH_10, K0, hb, hb_4, hoL, hoP, ho_11, pr_12, pr_13, pr_14, pr_15, pr_16, pr_17, hi⟩ ih1
  obtain ⟨ρ₀, rfl⟩ := hH_10.ex
  clear hH_10
  refine Run.seq ?_
  refine Run.seq ?_
  refine Run.region ?_
  refine RL.val (x_moveI rfl) ?_
  refine RL.val (x_moveP rfl) ?_
  refine RL.val (x_nilCheck rfl) ?_
  refine RL.val (x_fld (o' := 2) Try.underlying94 rfl ty91 rfl rfl rfl) ?_
  refine RL.val (x_ld (v := .slice (aL) ((knownL T.l).length) (cL)) ty91 rfl rfl (hb.cl.field (i := 2) rfl)) ?_
  refine RL.val (x_lenSl Try.underlying91 rfl) ?_
  refine RL.val (x_ltI rfl rfl) ?_
  refine RL.nil ?_
  refine Run.cond rfl (fun hc13 => ?_) (fun hc13 => ?_)
  · try simp only [br] at hc13
    refine Run.skip ?_
    refine Run.seq ?_
    refine Run.block ?_
    refine Run.seq ?_
    refine Run.seq ?_
    have hll := lr_len ⟨p, T.now⟩ (knownL T.l) i (by omega)
    obtain ⟨b_22, o_23, x, hx, ha_24, hc_25⟩ := hoL.sl.el (i := i) (by first | omega | (simp only [List.length_set]; omega))
    refine Run.draw' (m := 16) (by kernel_rfl) rfl ?_
    intro w_20 K_21
    replace hb := hb.ext K_21
    replace hb_4 := hb_4.ext K_21
    replace hoL := hoL.ext K_21
    replace hoP := hoP.ext K_21
    replace ho_11 := ho_11.ext K_21
    replace hc_25 := hc_25.ext K_21
    replace K0 := K0.ext K_21
    refine RA.take (v := .bool ((tf (lr1 ⟨p, T.now⟩) ([], false) (knownL T.l) i).2)) 0 rfl (by kernel_rfl) rfl (by rintro _ rfl; exact (x_moveB rfl)) ?_
    refine RA.take (v := .bool (!((tf (lr1 ⟨p, T.now⟩) ([], false) (knownL T.l) i).2))) 1 rfl (by kernel_rfl) rfl (by rintro _ rfl; exact (x_not rfl)) ?_
    refine RA.take (v := .bool (!((tf (lr1 ⟨p, T.now⟩) ([], false) (knownL T.l) i).2))) 2 rfl (by kernel_rfl) rfl (by rintro _ rfl; exact (x_moveB rfl)) ?_
    refine RA.gtake (v := .pointer (some ⟨b_1, 0, none⟩)) 3 rfl (by kernel_rfl) rfl (wantedT rfl rfl rfl rfl) (fun hg => by rintro _ rfl; exact (x_fld (o' := 0) Try.underlying23 rfl ty3 rfl rfl rfl)) ?_
    refine RA.gtake (v := .int .i64 ((p).node)) 4 rfl (by kernel_rfl) rfl (wantedT rfl rfl rfl rfl) (fun hg => by rintro _ rfl; exact (x_ld (v := .int .i64 ((p).node)) ty3 (gvr hg) rfl (hb_4.cl.field (i := 0) rfl))) ?_
    refine RA.gtake (v := .pointer (some ⟨b, 0, none⟩)) 5 rfl (by kernel_rfl) rfl (wantedT rfl rfl rfl rfl) (fun hg => by rintro _ rfl; exact (x_moveP rfl)) ?_
    refine RA.gtake (v := .pointer (some ⟨b, 0, none⟩)) 6 rfl (by kernel_rfl) rfl (wantedT rfl rfl rfl rfl) (fun hg => by rintro _ rfl; exact (x_nilCheck (gvr hg))) ?_
    refine RA.gtake (v := .pointer (some ⟨b, 2, none⟩)) 7 rfl (by kernel_rfl) rfl (wantedT rfl rfl rfl rfl) (fun hg => by rintro _ rfl; exact (x_fld (o' := 2) Try.underlying94 rfl ty91 rfl (gvr hg) rfl)) ?_
    refine RA.gtake (v := .slice (aL) ((knownL T.l).length) (cL)) 8 rfl (by kernel_rfl) rfl (wantedT rfl rfl rfl rfl) (fun hg => by rintro _ rfl; exact (x_ld (v := .slice (aL) ((knownL T.l).length) (cL)) ty91 (gvr hg) rfl (hb.cl.field (i := 2) rfl))) ?_
    refine RA.gtake (v := .int .i64 (((i : Nat) : Int))) 9 rfl (by kernel_rfl) rfl (wantedT rfl rfl rfl rfl) (fun hg => by rintro _ rfl; exact (x_moveI rfl)) ?_
    refine RA.gtake (v := .pointer (some ⟨b_22, o_23 + i * 4, none⟩)) 10 rfl (by kernel_rfl) rfl (wantedT rfl rfl rfl rfl) (fun hg => by rintro _ rfl; exact (x_idxN Try.underlying91 ty90 (gvr hg) (gvr hg) ha_24 (by first | omega | (simp only [List.length_set]; omega)))) ?_
    refine RA.gtake (v := .pointer (some ⟨b_22, o_23 + i * 4 + 0, none⟩)) 11 rfl (by kernel_rfl) rfl (wantedT rfl rfl rfl rfl) (fun hg => by rintro _ rfl; exact (x_fld (o' := o_23 + i * 4 + 0) Try.underlying90 rfl ty23 rfl (gvr hg) rfl)) ?_
    refine RA.gtake (v := .pointer (some ⟨b_22, o_23 + i * 4 + 0 + 0, none⟩)) 12 rfl (by kernel_rfl) rfl (wantedT rfl rfl rfl rfl) (fun hg => by rintro _ rfl; exact (x_fld (o' := o_23 + i * 4 + 0 + 0) Try.underlying23 rfl ty3 rfl (gvr hg) rfl)) ?_
    refine RA.gtake (v := .int .i64 (((x).peer).node)) 13 rfl (by kernel_rfl) rfl (wantedT rfl rfl rfl rfl) (fun hg => by rintro _ rfl; exact (x_ld ty3 (gvr hg) rfl (hc_25.field (i := 0) rfl))) ?_
    refine RA.gtake (v := .bool (decide (((p).node) ≤ (((x).peer).node)))) 14 rfl (by kernel_rfl) rfl (wantedT rfl rfl rfl rfl) (fun hg => by rintro _ rfl; exact (x_leI (gvr hg) (gvr hg))) ?_
    refine RA.take (v := .bool ((!((tf (lr1 ⟨p, T.now⟩) ([], false) (knownL T.l) i).2)) && (decide (((p).node) ≤ (((x).peer).node))))) 15 rfl (by kernel_rfl) rfl (by rintro _ rfl; exact (x_and rfl rfl rfl)) ?_
    refine RA.done (by kernel_rfl) ?_
    refine Run.cond rfl (fun hc31 => ?_) (fun hc31 => ?_)
    · try simp only [br] at hc31
      refine Run.seq ?_
      refine Run.drawT [] (m := 10) (by kernel_rfl) rfl ?_
      intro w_28 K_29
      replace hb := hb.ext K_29
      replace hb_4 := hb_4.ext K_29
      replace hoL := hoL.ext K_29
      replace hoP := hoP.ext K_29
      replace ho_11 := ho_11.ext K_29
      replace K0 := K0.ext K_29
      refine ⟨fun w' => Blk w' b [.int .i64 (T.self), .int .i64 (T.now), .slice (aL) ((knownL T.l).length) (cL), .slice (aP) (T.pings.length) (cP), .int .i64 (T.req), .bool (T.begun), .int .i64 (T.last), .int .i64 (T.target)] 94 ∧ Blk w' b_1 [.int .i64 ((p).node), .int .i64 ((p).inc), .int .i64 ((p).status)] 23 ∧ True, ?_⟩
      refine RT.takeP (v := .slice (an) (((tf (lr1 ⟨p, T.now⟩) ([], false) (knownL T.l) i).1).length) (cn)) 0 rfl (by kernel_rfl) (.inr ⟨hb, hb_4, trivial⟩) (fun _ => (x_moveSl rfl)) ?_
      refine RT.take (v := .agg #[.int .i64 ((p).node), .int .i64 ((p).inc), .int .i64 ((p).status)]) 1 rfl (by kernel_rfl) ⟨hb, hb_4, trivial⟩ (by rintro _ ⟨hb, hb_4, -⟩; exact (x_lds (cs := #[.int .i64 ((p).node), .int .i64 ((p).inc), .int .i64 ((p).status)]) ty23 rfl rfl (hb_4.cl.drop 0 3))) ?_
      refine RT.takeP (v := .pointer (some ⟨b, 0, none⟩)) 2 rfl (by kernel_rfl) (.inr ⟨hb, hb_4, trivial⟩) (fun _ => (x_moveP rfl)) ?_
      refine RT.takeP (v := .pointer (some ⟨b, 0, none⟩)) 3 rfl (by kernel_rfl) (.inr ⟨hb, hb_4, trivial⟩) (fun _ => (x_nilCheck rfl)) ?_
      refine RT.takeP (v := .pointer (some ⟨b, 1, none⟩)) 4 rfl (by kernel_rfl) (.inr ⟨hb, hb_4, trivial⟩) (fun _ => (x_fld (o' := 1) Try.underlying94 rfl ty3 rfl rfl rfl)) ?_
      refine RT.take (v := .int .i64 (T.now)) 5 rfl (by kernel_rfl) ⟨hb, hb_4, trivial⟩ (by rintro _ ⟨hb, hb_4, -⟩; exact (x_ld (v := .int .i64 (T.now)) ty3 rfl rfl (hb.cl.field (i := 1) rfl))) ?_
      refine RT.takeP (v := .agg #[.int .i64 ((p).node), .int .i64 ((p).inc), .int .i64 ((p).status), .int .i64 (T.now)]) 6 rfl (by kernel_rfl) (.inr ⟨hb, hb_4, trivial⟩) (fun _ => (x_build (cells := #[.int .i64 ((p).node), .int .i64 ((p).inc), .int .i64 ((p).status), .int .i64 (T.now)]) (by kernel_rfl))) ?_
      refine RT.st 7 rfl (by kernel_rfl) rfl <| St1.buildSlice ([(⟨p, T.now⟩ : KnownM)] : List KnownM) Try.underlying91 ty90 rfl rfl (by first | decide | (simp [Enc.size])) ?_
      intro b_30 w_31 hl_34 ho_33 K_32
      have pr_35 : ¬ own (some ⟨b_30, 0, none⟩) b := notNew (ge_new hl_34) hb.lt
      have pr_36 : ¬ own (some ⟨b_30, 0, none⟩) b_1 := notNew (ge_new hl_34) hb_4.lt
      have pr_37 : ∀ q_, own (some ⟨b_30, 0, none⟩) q_ → ¬ own aL q_ := apartNew (ge_new hl_34) hoL.own_lt
      have pr_38 : ∀ q_, own (some ⟨b_30, 0, none⟩) q_ → ¬ own aP q_ := apartNew (ge_new hl_34) hoP.own_lt
      have pr_39 : ∀ q_, own (some ⟨b_30, 0, none⟩) q_ → ¬ own an q_ := apartNew (ge_new hl_34) ho_11.own_lt
      have pg_40 : ∀ q_, own (some ⟨b_30, 0, none⟩) q_ → q_ < w.heap.size → (rtabS b aL aP) q_ := fun q_ h hlt => absurd (Nat.le_trans K0.size ((ge_new hl_34) q_ h)) (by omega)
      have pw_41 : ∀ q_, own (some ⟨b_30, 0, none⟩) q_ → w.heap.size ≤ q_ := fun q_ h => Nat.le_trans K0.size ((ge_new hl_34) q_ h)
      clear hl_34
      replace hb := hb.ext K_32
      replace hb_4 := hb_4.ext K_32
      replace hoL := hoL.ext K_32
      replace hoP := hoP.ext K_32
      replace ho_11 := ho_11.ext K_32
      replace K0 := K0.ext K_32
      refine ⟨.inr ⟨hb, hb_4, trivial⟩, ?_⟩
      refine RT.st 8 rfl (by kernel_rfl) rfl <| St1.append (xs := (tf (lr1 ⟨p, T.now⟩) ([], false) (knownL T.l) i).1) (ys := ([(⟨p, T.now⟩ : KnownM)] : List KnownM)) Try.underlying91 ty90 rfl rfl rfl ho_11 ho_33.sl (by first | omega | (simp only [lr]; omega)) (by decide) ?_
      intro a_42 c_43 w_44 ho_45 K_46 hm_47 hrm_48
      have pr_49 : ¬ own a_42 b := hm_47.not pr_12 hb.lt
      have pr_50 : ¬ own a_42 b_1 := hm_47.not pr_13 hb_4.lt
      have pr_51 : ∀ q_, own a_42 q_ → ¬ own aL q_ := hm_47.apart pr_14 hoL.own_lt
      have pr_52 : ∀ q_, own a_42 q_ → ¬ own aP q_ := hm_47.apart pr_15 hoP.own_lt
      have pr_53 : ∀ q_, own a_42 q_ → ¬ own (some ⟨b_30, 0, none⟩) q_ := hm_47.apart (fun q_ h1 h2 => pr_39 q_ h2 h1) ho_33.own_lt
      have pg_54 : ∀ q_, own a_42 q_ → q_ < w.heap.size → (rtabS b aL aP) q_ := hm_47.inS pr_16 K0.size
      have pw_55 : ∀ q_, own a_42 q_ → w.heap.size ≤ q_ := hm_47.ge pr_17 K0.size
      replace hb := hb.keep K_46 pr_12
      replace hb_4 := hb_4.keep K_46 pr_13
      replace hoL := hoL.keepO K_46 (fun q_ h1 h2 => pr_14 q_ h2 h1)
      replace hoP := hoP.keepO K_46 (fun q_ h1 h2 => pr_15 q_ h2 h1)
      replace ho_33 := ho_33.keepO K_46 pr_39
      replace K0 := K0.trans K_46 (fun x hlt hx => pr_16 x hx hlt)
      clear hm_47
      clear hrm_48
      refine ⟨.inr ⟨hb, hb_4, trivial⟩, ?_⟩
      refine RT.takeP (v := .slice (a_42) ((((tf (lr1 ⟨p, T.now⟩) ([], false) (knownL T.l) i).1) ++ ([(⟨p, T.now⟩ : KnownM)] : List KnownM)).length) (c_43)) 9 rfl (by kernel_rfl) (.inr ⟨hb, hb_4, trivial⟩) (fun _ => (x_assignSl rfl)) ?_
      refine RT.done (by kernel_rfl) ?_
      refine Run.region ?_
      refine RL.val (x_assignB rfl) ?_
      refine RL.nil ?_
      refine Run.seq ?_
      obtain ⟨b_58, o_59, x_62, hx_63, ha_60, hc_61⟩ := hoL.sl.el (i := i) (by first | omega | (simp only [List.length_set]; omega))
      obtain rfl : x = x_62 := Option.some.inj (hx.symm.trans hx_63)
      refine Run.draw' (m := 12) (by kernel_rfl) rfl ?_
      intro w_56 K_57
      replace hb := hb.ext K_57
      replace hb_4 := hb_4.ext K_57
      replace hoL := hoL.ext K_57
      replace hoP := hoP.ext K_57
      replace ho_33 := ho_33.ext K_57
      replace ho_45 := ho_45.ext K_57
      replace hc_61 := hc_61.ext K_57
      replace K0 := K0.ext K_57
      refine RA.take (v := .pointer (some ⟨b, 0, none⟩)) 0 rfl (by kernel_rfl) rfl (by rintro _ rfl; exact (x_moveP rfl)) ?_
      refine RA.take (v := .pointer (some ⟨b, 0, none⟩)) 1 rfl (by kernel_rfl) rfl (by rintro _ rfl; exact (x_nilCheck rfl)) ?_
      refine RA.take (v := .pointer (some ⟨b, 2, none⟩)) 2 rfl (by kernel_rfl) rfl (by rintro _ rfl; exact (x_fld (o' := 2) Try.underlying94 rfl ty91 rfl rfl rfl)) ?_
      refine RA.take (v := .slice (aL) ((knownL T.l).length) (cL)) 3 rfl (by kernel_rfl) rfl (by rintro _ rfl; exact (x_ld (v := .slice (aL) ((knownL T.l).length) (cL)) ty91 rfl rfl (hb.cl.field (i := 2) rfl))) ?_
      refine RA.take (v := .int .i64 (((i : Nat) : Int))) 4 rfl (by kernel_rfl) rfl (by rintro _ rfl; exact (x_moveI rfl)) ?_
      refine RA.take (v := .pointer (some ⟨b_58, o_59 + i * 4, none⟩)) 5 rfl (by kernel_rfl) rfl (by rintro _ rfl; exact (x_idxN Try.underlying91 ty90 rfl rfl ha_60 (by first | omega | (simp only [List.length_set]; omega)))) ?_
      refine RA.take (v := .pointer (some ⟨b_58, o_59 + i * 4 + 0, none⟩)) 6 rfl (by kernel_rfl) rfl (by rintro _ rfl; exact (x_fld (o' := o_59 + i * 4 + 0) Try.underlying90 rfl ty23 rfl rfl rfl)) ?_
      refine RA.take (v := .pointer (some ⟨b_58, o_59 + i * 4 + 0 + 0, none⟩)) 7 rfl (by kernel_rfl) rfl (by rintro _ rfl; exact (x_fld (o' := o_59 + i * 4 + 0 + 0) Try.underlying23 rfl ty3 rfl rfl rfl)) ?_
      refine RA.take (v := .int .i64 (((x).peer).node)) 8 rfl (by kernel_rfl) rfl (by rintro _ rfl; exact (x_ld ty3 rfl rfl (hc_61.field (i := 0) rfl))) ?_
      refine RA.take (v := .pointer (some ⟨b_1, 0, none⟩)) 9 rfl (by kernel_rfl) rfl (by rintro _ rfl; exact (x_fld (o' := 0) Try.underlying23 rfl ty3 rfl rfl rfl)) ?_
      refine RA.take (v := .int .i64 ((p).node)) 10 rfl (by kernel_rfl) rfl (by rintro _ rfl; exact (x_ld (v := .int .i64 ((p).node)) ty3 rfl rfl (hb_4.cl.field (i := 0) rfl))) ?_
      refine RA.take (v := .bool ((((x).peer).node) != ((p).node))) 11 rfl (by kernel_rfl) rfl (by rintro _ rfl; exact (x_neI rfl rfl)) ?_
      refine RA.done (by kernel_rfl) ?_
      refine Run.cond rfl (fun hc52 => ?_) (fun hc52 => ?_)
      · try simp only [br] at hc52
        refine Run.region ?_
        refine RL.val (x_moveSl rfl) ?_
        refine RL.val (x_moveP rfl) ?_
        refine RL.val (x_nilCheck rfl) ?_
        refine RL.val (x_fld (o' := 2) Try.underlying94 rfl ty91 rfl rfl rfl) ?_
        refine RL.val (x_ld (v := .slice (aL) ((knownL T.l).length) (cL)) ty91 rfl rfl (hb.cl.field (i := 2) rfl)) ?_
        refine RL.val (x_moveI rfl) ?_
        obtain ⟨b_64, o_65, x_68, hx_69, ha_66, hc_67⟩ := hoL.sl.el (i := i) (by first | omega | (simp only [List.length_set]; omega))
        obtain rfl : x = x_68 := Option.some.inj (hx.symm.trans hx_69)
        refine RL.val (x_idxN Try.underlying91 ty90 rfl rfl ha_66 (by first | omega | (simp only [List.length_set]; omega))) ?_
        refine RL.val (x_ldV (v := .agg #[.int .i64 (((x).peer).node), .int .i64 (((x).peer).inc), .int .i64 (((x).peer).status), .int .i64 ((x).since)]) (y := x) ty90 rfl hc_67 rfl) ?_
        refine RL.st rfl <| St1.buildSlice ([x] : List KnownM) Try.underlying91 ty90 rfl rfl (by first | decide | (simp [Enc.size])) ?_
        intro b_70 w_71 hl_74 ho_73 K_72
        have pr_75 : ¬ own (some ⟨b_70, 0, none⟩) b := notNew (ge_new hl_74) hb.lt
        have pr_76 : ¬ own (some ⟨b_70, 0, none⟩) b_1 := notNew (ge_new hl_74) hb_4.lt
        have pr_77 : ∀ q_, own (some ⟨b_70, 0, none⟩) q_ → ¬ own aL q_ := apartNew (ge_new hl_74) hoL.own_lt
        have pr_78 : ∀ q_, own (some ⟨b_70, 0, none⟩) q_ → ¬ own aP q_ := apartNew (ge_new hl_74) hoP.own_lt
        have pr_79 : ∀ q_, own (some ⟨b_70, 0, none⟩) q_ → ¬ own (some ⟨b_30, 0, none⟩) q_ := apartNew (ge_new hl_74) ho_33.own_lt
        have pr_80 : ∀ q_, own (some ⟨b_70, 0, none⟩) q_ → ¬ own a_42 q_ := apartNew (ge_new hl_74) ho_45.own_lt
        have pg_81 : ∀ q_, own (some ⟨b_70, 0, none⟩) q_ → q_ < w.heap.size → (rtabS b aL aP) q_ := fun q_ h hlt => absurd (Nat.le_trans K0.size ((ge_new hl_74) q_ h)) (by omega)
        have pw_82 : ∀ q_, own (some ⟨b_70, 0, none⟩) q_ → w.heap.size ≤ q_ := fun q_ h => Nat.le_trans K0.size ((ge_new hl_74) q_ h)
        clear hl_74
        replace hb := hb.ext K_72
        replace hb_4 := hb_4.ext K_72
        replace hoL := hoL.ext K_72
        replace hoP := hoP.ext K_72
        replace ho_33 := ho_33.ext K_72
        replace ho_45 := ho_45.ext K_72
        replace hc_67 := hc_67.ext K_72
        replace K0 := K0.ext K_72
        refine RL.st rfl <| St1.append (xs := ((tf (lr1 ⟨p, T.now⟩) ([], false) (knownL T.l) i).1) ++ ([(⟨p, T.now⟩ : KnownM)] : List KnownM)) (ys := ([x] : List KnownM)) Try.underlying91 ty90 rfl rfl rfl ho_45 ho_73.sl (by first | omega | (simp only [lr]; omega)) (by decide) ?_
        intro a_83 c_84 w_85 ho_86 K_87 hm_88 hrm_89
        have pr_90 : ¬ own a_83 b := hm_88.not pr_49 hb.lt
        have pr_91 : ¬ own a_83 b_1 := hm_88.not pr_50 hb_4.lt
        have pr_92 : ∀ q_, own a_83 q_ → ¬ own aL q_ := hm_88.apart pr_51 hoL.own_lt
        have pr_93 : ∀ q_, own a_83 q_ → ¬ own aP q_ := hm_88.apart pr_52 hoP.own_lt
        have pr_94 : ∀ q_, own a_83 q_ → ¬ own (some ⟨b_30, 0, none⟩) q_ := hm_88.apart pr_53 ho_33.own_lt
        have pr_95 : ∀ q_, own a_83 q_ → ¬ own (some ⟨b_70, 0, none⟩) q_ := hm_88.apart (fun q_ h1 h2 => pr_80 q_ h2 h1) ho_73.own_lt
        have pg_96 : ∀ q_, own a_83 q_ → q_ < w.heap.size → (rtabS b aL aP) q_ := hm_88.inS pg_54 K0.size
        have pw_97 : ∀ q_, own a_83 q_ → w.heap.size ≤ q_ := hm_88.ge pw_55 K0.size
        replace hb := hb.keep K_87 pr_49
        replace hb_4 := hb_4.keep K_87 pr_50
        replace hoL := hoL.keepO K_87 (fun q_ h1 h2 => pr_51 q_ h2 h1)
        replace hoP := hoP.keepO K_87 (fun q_ h1 h2 => pr_52 q_ h2 h1)
        replace ho_33 := ho_33.keepO K_87 (fun q_ h1 h2 => pr_53 q_ h2 h1)
        replace hc_67 := hc_67.keep K_87 (fun h => (fun q_ h1 h2 => pr_51 q_ h2 h1) _ ((own_sub _) _ ha_66) h)
        replace ho_73 := ho_73.keepO K_87 pr_80
        replace K0 := K0.trans K_87 (fun x hlt hx => pg_54 x hx hlt)
        clear hm_88
        clear hrm_89
        refine RL.val (x_assignSl rfl) ?_
        refine RL.nil ?_
        refine Run.inBlock ?_
        refine Run.region ?_
        refine RL.val (x_moveI rfl) ?_
        refine RL.val (litI (c := ((i + 1 : Nat) : Int)) (x_add rfl rfl (by omega) (by omega)) rfl) ?_
        refine RL.val (x_assignI rfl) ?_
        refine RL.nil ?_
        have e := (tf_succ (f := lr1 ⟨p, T.now⟩) (s := ([], false)) hx).trans (lr1_b hc31 hc52)
        refine ih1 (i + 1) _ _ ?_ (by omega)
        rw [e]
        refine ⟨_, _, ⟨rfl, rfl, rfl, rfl, rfl, trivial⟩, K0, hb, hb_4, hoL, hoP, ho_86, pr_90, pr_91, pr_92, pr_93, pg_96, pw_97, ?_⟩
        · omega
      · try simp only [br] at hc52
        refine Run.skip ?_
        refine Run.inBlock ?_
        refine Run.region ?_
        refine RL.val (x_moveI rfl) ?_
        refine RL.val (litI (c := ((i + 1 : Nat) : Int)) (x_add rfl rfl (by omega) (by omega)) rfl) ?_
        refine RL.val (x_assignI rfl) ?_
        refine RL.nil ?_
        have e := (tf_succ (f := lr1 ⟨p, T.now⟩) (s := ([], false)) hx).trans (lr1_a hc31 hc52)
        refine ih1 (i + 1) _ _ ?_ (by omega)
        rw [e]
        refine ⟨_, _, ⟨rfl, rfl, rfl, rfl, rfl, trivial⟩, K0, hb, hb_4, hoL, hoP, ho_45, pr_49, pr_50, pr_51, pr_52, pg_54, pw_55, ?_⟩
        · omega
    · try simp only [br] at hc31
      refine Run.skip ?_
      refine Run.seq ?_
      obtain ⟨b_100, o_101, x_104, hx_105, ha_102, hc_103⟩ := hoL.sl.el (i := i) (by first | omega | (simp only [List.length_set]; omega))
      obtain rfl : x = x_104 := Option.some.inj (hx.symm.trans hx_105)
      refine Run.draw' (m := 12) (by kernel_rfl) rfl ?_
      intro w_98 K_99
      replace hb := hb.ext K_99
      replace hb_4 := hb_4.ext K_99
      replace hoL := hoL.ext K_99
      replace hoP := hoP.ext K_99
      replace ho_11 := ho_11.ext K_99
      replace hc_103 := hc_103.ext K_99
      replace K0 := K0.ext K_99
      refine RA.take (v := .pointer (some ⟨b, 0, none⟩)) 0 rfl (by kernel_rfl) rfl (by rintro _ rfl; exact (x_moveP rfl)) ?_
      refine RA.take (v := .pointer (some ⟨b, 0, none⟩)) 1 rfl (by kernel_rfl) rfl (by rintro _ rfl; exact (x_nilCheck rfl)) ?_
      refine RA.take (v := .pointer (some ⟨b, 2, none⟩)) 2 rfl (by kernel_rfl) rfl (by rintro _ rfl; exact (x_fld (o' := 2) Try.underlying94 rfl ty91 rfl rfl rfl)) ?_
      refine RA.take (v := .slice (aL) ((knownL T.l).length) (cL)) 3 rfl (by kernel_rfl) rfl (by rintro _ rfl; exact (x_ld (v := .slice (aL) ((knownL T.l).length) (cL)) ty91 rfl rfl (hb.cl.field (i := 2) rfl))) ?_
      refine RA.take (v := .int .i64 (((i : Nat) : Int))) 4 rfl (by kernel_rfl) rfl (by rintro _ rfl; exact (x_moveI rfl)) ?_
      refine RA.take (v := .pointer (some ⟨b_100, o_101 + i * 4, none⟩)) 5 rfl (by kernel_rfl) rfl (by rintro _ rfl; exact (x_idxN Try.underlying91 ty90 rfl rfl ha_102 (by first | omega | (simp only [List.length_set]; omega)))) ?_
      refine RA.take (v := .pointer (some ⟨b_100, o_101 + i * 4 + 0, none⟩)) 6 rfl (by kernel_rfl) rfl (by rintro _ rfl; exact (x_fld (o' := o_101 + i * 4 + 0) Try.underlying90 rfl ty23 rfl rfl rfl)) ?_
      refine RA.take (v := .pointer (some ⟨b_100, o_101 + i * 4 + 0 + 0, none⟩)) 7 rfl (by kernel_rfl) rfl (by rintro _ rfl; exact (x_fld (o' := o_101 + i * 4 + 0 + 0) Try.underlying23 rfl ty3 rfl rfl rfl)) ?_
      refine RA.take (v := .int .i64 (((x).peer).node)) 8 rfl (by kernel_rfl) rfl (by rintro _ rfl; exact (x_ld ty3 rfl rfl (hc_103.field (i := 0) rfl))) ?_
      refine RA.take (v := .pointer (some ⟨b_1, 0, none⟩)) 9 rfl (by kernel_rfl) rfl (by rintro _ rfl; exact (x_fld (o' := 0) Try.underlying23 rfl ty3 rfl rfl rfl)) ?_
      refine RA.take (v := .int .i64 ((p).node)) 10 rfl (by kernel_rfl) rfl (by rintro _ rfl; exact (x_ld (v := .int .i64 ((p).node)) ty3 rfl rfl (hb_4.cl.field (i := 0) rfl))) ?_
      refine RA.take (v := .bool ((((x).peer).node) != ((p).node))) 11 rfl (by kernel_rfl) rfl (by rintro _ rfl; exact (x_neI rfl rfl)) ?_
      refine RA.done (by kernel_rfl) ?_
      refine Run.cond rfl (fun hc52 => ?_) (fun hc52 => ?_)
      · try simp only [br] at hc52
        refine Run.region ?_
        refine RL.val (x_moveSl rfl) ?_
        refine RL.val (x_moveP rfl) ?_
        refine RL.val (x_nilCheck rfl) ?_
        refine RL.val (x_fld (o' := 2) Try.underlying94 rfl ty91 rfl rfl rfl) ?_
        refine RL.val (x_ld (v := .slice (aL) ((knownL T.l).length) (cL)) ty91 rfl rfl (hb.cl.field (i := 2) rfl)) ?_
        refine RL.val (x_moveI rfl) ?_
        obtain ⟨b_106, o_107, x_110, hx_111, ha_108, hc_109⟩ := hoL.sl.el (i := i) (by first | omega | (simp only [List.length_set]; omega))
        obtain rfl : x = x_110 := Option.some.inj (hx.symm.trans hx_111)
        refine RL.val (x_idxN Try.underlying91 ty90 rfl rfl ha_108 (by first | omega | (simp only [List.length_set]; omega))) ?_
        refine RL.val (x_ldV (v := .agg #[.int .i64 (((x).peer).node), .int .i64 (((x).peer).inc), .int .i64 (((x).peer).status), .int .i64 ((x).since)]) (y := x) ty90 rfl hc_109 rfl) ?_
        refine RL.st rfl <| St1.buildSlice ([x] : List KnownM) Try.underlying91 ty90 rfl rfl (by first | decide | (simp [Enc.size])) ?_
        intro b_112 w_113 hl_116 ho_115 K_114
        have pr_117 : ¬ own (some ⟨b_112, 0, none⟩) b := notNew (ge_new hl_116) hb.lt
        have pr_118 : ¬ own (some ⟨b_112, 0, none⟩) b_1 := notNew (ge_new hl_116) hb_4.lt
        have pr_119 : ∀ q_, own (some ⟨b_112, 0, none⟩) q_ → ¬ own aL q_ := apartNew (ge_new hl_116) hoL.own_lt
        have pr_120 : ∀ q_, own (some ⟨b_112, 0, none⟩) q_ → ¬ own aP q_ := apartNew (ge_new hl_116) hoP.own_lt
        have pr_121 : ∀ q_, own (some ⟨b_112, 0, none⟩) q_ → ¬ own an q_ := apartNew (ge_new hl_116) ho_11.own_lt
        have pg_122 : ∀ q_, own (some ⟨b_112, 0, none⟩) q_ → q_ < w.heap.size → (rtabS b aL aP) q_ := fun q_ h hlt => absurd (Nat.le_trans K0.size ((ge_new hl_116) q_ h)) (by omega)
        have pw_123 : ∀ q_, own (some ⟨b_112, 0, none⟩) q_ → w.heap.size ≤ q_ := fun q_ h => Nat.le_trans K0.size ((ge_new hl_116) q_ h)
        clear hl_116
        replace hb := hb.ext K_114
        replace hb_4 := hb_4.ext K_114
        replace hoL := hoL.ext K_114
        replace hoP := hoP.ext K_114
        replace ho_11 := ho_11.ext K_114
        replace hc_109 := hc_109.ext K_114
        replace K0 := K0.ext K_114
        refine RL.st rfl <| St1.append (xs := (tf (lr1 ⟨p, T.now⟩) ([], false) (knownL T.l) i).1) (ys := ([x] : List KnownM)) Try.underlying91 ty90 rfl rfl rfl ho_11 ho_115.sl (by first | omega | (simp only [lr]; omega)) (by decide) ?_
        intro a_124 c_125 w_126 ho_127 K_128 hm_129 hrm_130
        have pr_131 : ¬ own a_124 b := hm_129.not pr_12 hb.lt
        have pr_132 : ¬ own a_124 b_1 := hm_129.not pr_13 hb_4.lt
        have pr_133 : ∀ q_, own a_124 q_ → ¬ own aL q_ := hm_129.apart pr_14 hoL.own_lt
        have pr_134 : ∀ q_, own a_124 q_ → ¬ own aP q_ := hm_129.apart pr_15 hoP.own_lt
        have pr_135 : ∀ q_, own a_124 q_ → ¬ own (some ⟨b_112, 0, none⟩) q_ := hm_129.apart (fun q_ h1 h2 => pr_121 q_ h2 h1) ho_115.own_lt
        have pg_136 : ∀ q_, own a_124 q_ → q_ < w.heap.size → (rtabS b aL aP) q_ := hm_129.inS pr_16 K0.size
        have pw_137 : ∀ q_, own a_124 q_ → w.heap.size ≤ q_ := hm_129.ge pr_17 K0.size
        replace hb := hb.keep K_128 pr_12
        replace hb_4 := hb_4.keep K_128 pr_13
        replace hoL := hoL.keepO K_128 (fun q_ h1 h2 => pr_14 q_ h2 h1)
        replace hoP := hoP.keepO K_128 (fun q_ h1 h2 => pr_15 q_ h2 h1)
        replace hc_109 := hc_109.keep K_128 (fun h => (fun q_ h1 h2 => pr_14 q_ h2 h1) _ ((own_sub _) _ ha_108) h)
        replace ho_115 := ho_115.keepO K_128 pr_121
        replace K0 := K0.trans K_128 (fun x hlt hx => pr_16 x hx hlt)
        clear hm_129
        clear hrm_130
        refine RL.val (x_assignSl rfl) ?_
        refine RL.nil ?_
        refine Run.inBlock ?_
        refine Run.region ?_
        refine RL.val (x_moveI rfl) ?_
        refine RL.val (litI (c := ((i + 1 : Nat) : Int)) (x_add rfl rfl (by omega) (by omega)) rfl) ?_
        refine RL.val (x_assignI rfl) ?_
        refine RL.nil ?_
        have e := (tf_succ (f := lr1 ⟨p, T.now⟩) (s := ([], false)) hx).trans (lr1_d (fun h => by rcases hc31 with e | e; (· rw [e] at h; cases h.1); (· have := h.2; simp only at this; omega)) hc52)
        refine ih1 (i + 1) _ _ ?_ (by omega)
        rw [e]
        refine ⟨_, _, ⟨rfl, rfl, rfl, rfl, rfl, trivial⟩, K0, hb, hb_4, hoL, hoP, ho_127, pr_131, pr_132, pr_133, pr_134, pg_136, pw_137, ?_⟩
        · omega
      · try simp only [br] at hc52
        refine Run.skip ?_
        refine Run.inBlock ?_
        refine Run.region ?_
        refine RL.val (x_moveI rfl) ?_
        refine RL.val (litI (c := ((i + 1 : Nat) : Int)) (x_add rfl rfl (by omega) (by omega)) rfl) ?_
        refine RL.val (x_assignI rfl) ?_
        refine RL.nil ?_
        have e := (tf_succ (f := lr1 ⟨p, T.now⟩) (s := ([], false)) hx).trans (lr1_c (fun h => by rcases hc31 with e | e; (· rw [e] at h; cases h.1); (· have := h.2; simp only at this; omega)) hc52)
        refine ih1 (i + 1) _ _ ?_ (by omega)
        rw [e]
        refine ⟨_, _, ⟨rfl, rfl, rfl, rfl, rfl, trivial⟩, K0, hb, hb_4, hoL, hoP, ho_11, pr_12, pr_13, pr_14, pr_15, pr_16, pr_17, ?_⟩
        · omega
  · try simp only [br] at hc13
    refine Run.exit rfl ?_
    refine Run.seq ?_
    refine Run.seq ?_
    refine Run.region ?_
    refine RL.val (x_moveB rfl) ?_
    refine RL.val (x_not rfl) ?_
    refine RL.nil ?_
    refine Run.cond rfl (fun hc64 => ?_) (fun hc64 => ?_)
    · try simp only [br] at hc64
      have hll := lr_len ⟨p, T.now⟩ (knownL T.l) i (by omega)
      refine Run.drawT [] (m := 10) (by kernel_rfl) rfl ?_
      intro w_138 K_139
      replace hb := hb.ext K_139
      replace hb_4 := hb_4.ext K_139
      replace hoL := hoL.ext K_139
      replace hoP := hoP.ext K_139
      replace ho_11 := ho_11.ext K_139
      replace K0 := K0.ext K_139
      refine ⟨fun w' => Blk w' b [.int .i64 (T.self), .int .i64 (T.now), .slice (aL) ((knownL T.l).length) (cL), .slice (aP) (T.pings.length) (cP), .int .i64 (T.req), .bool (T.begun), .int .i64 (T.last), .int .i64 (T.target)] 94 ∧ Blk w' b_1 [.int .i64 ((p).node), .int .i64 ((p).inc), .int .i64 ((p).status)] 23 ∧ True, ?_⟩
      refine RT.takeP (v := .slice (an) (((tf (lr1 ⟨p, T.now⟩) ([], false) (knownL T.l) i).1).length) (cn)) 0 rfl (by kernel_rfl) (.inr ⟨hb, hb_4, trivial⟩) (fun _ => (x_moveSl rfl)) ?_
      refine RT.take (v := .agg #[.int .i64 ((p).node), .int .i64 ((p).inc), .int .i64 ((p).status)]) 1 rfl (by kernel_rfl) ⟨hb, hb_4, trivial⟩ (by rintro _ ⟨hb, hb_4, -⟩; exact (x_lds (cs := #[.int .i64 ((p).node), .int .i64 ((p).inc), .int .i64 ((p).status)]) ty23 rfl rfl (hb_4.cl.drop 0 3))) ?_
      refine RT.takeP (v := .pointer (some ⟨b, 0, none⟩)) 2 rfl (by kernel_rfl) (.inr ⟨hb, hb_4, trivial⟩) (fun _ => (x_moveP rfl)) ?_
      refine RT.takeP (v := .pointer (some ⟨b, 0, none⟩)) 3 rfl (by kernel_rfl) (.inr ⟨hb, hb_4, trivial⟩) (fun _ => (x_nilCheck rfl)) ?_
      refine RT.takeP (v := .pointer (some ⟨b, 1, none⟩)) 4 rfl (by kernel_rfl) (.inr ⟨hb, hb_4, trivial⟩) (fun _ => (x_fld (o' := 1) Try.underlying94 rfl ty3 rfl rfl rfl)) ?_
      refine RT.take (v := .int .i64 (T.now)) 5 rfl (by kernel_rfl) ⟨hb, hb_4, trivial⟩ (by rintro _ ⟨hb, hb_4, -⟩; exact (x_ld (v := .int .i64 (T.now)) ty3 rfl rfl (hb.cl.field (i := 1) rfl))) ?_
      refine RT.takeP (v := .agg #[.int .i64 ((p).node), .int .i64 ((p).inc), .int .i64 ((p).status), .int .i64 (T.now)]) 6 rfl (by kernel_rfl) (.inr ⟨hb, hb_4, trivial⟩) (fun _ => (x_build (cells := #[.int .i64 ((p).node), .int .i64 ((p).inc), .int .i64 ((p).status), .int .i64 (T.now)]) (by kernel_rfl))) ?_
      refine RT.st 7 rfl (by kernel_rfl) rfl <| St1.buildSlice ([(⟨p, T.now⟩ : KnownM)] : List KnownM) Try.underlying91 ty90 rfl rfl (by first | decide | (simp [Enc.size])) ?_
      intro b_140 w_141 hl_144 ho_143 K_142
      have pr_145 : ¬ own (some ⟨b_140, 0, none⟩) b := notNew (ge_new hl_144) hb.lt
      have pr_146 : ¬ own (some ⟨b_140, 0, none⟩) b_1 := notNew (ge_new hl_144) hb_4.lt
      have pr_147 : ∀ q_, own (some ⟨b_140, 0, none⟩) q_ → ¬ own aL q_ := apartNew (ge_new hl_144) hoL.own_lt
      have pr_148 : ∀ q_, own (some ⟨b_140, 0, none⟩) q_ → ¬ own aP q_ := apartNew (ge_new hl_144) hoP.own_lt
      have pr_149 : ∀ q_, own (some ⟨b_140, 0, none⟩) q_ → ¬ own an q_ := apartNew (ge_new hl_144) ho_11.own_lt
      have pg_150 : ∀ q_, own (some ⟨b_140, 0, none⟩) q_ → q_ < w.heap.size → (rtabS b aL aP) q_ := fun q_ h hlt => absurd (Nat.le_trans K0.size ((ge_new hl_144) q_ h)) (by omega)
      have pw_151 : ∀ q_, own (some ⟨b_140, 0, none⟩) q_ → w.heap.size ≤ q_ := fun q_ h => Nat.le_trans K0.size ((ge_new hl_144) q_ h)
      clear hl_144
      replace hb := hb.ext K_142
      replace hb_4 := hb_4.ext K_142
      replace hoL := hoL.ext K_142
      replace hoP := hoP.ext K_142
      replace ho_11 := ho_11.ext K_142
      replace K0 := K0.ext K_142
      refine ⟨.inr ⟨hb, hb_4, trivial⟩, ?_⟩
      refine RT.st 8 rfl (by kernel_rfl) rfl <| St1.append (xs := (tf (lr1 ⟨p, T.now⟩) ([], false) (knownL T.l) i).1) (ys := ([(⟨p, T.now⟩ : KnownM)] : List KnownM)) Try.underlying91 ty90 rfl rfl rfl ho_11 ho_143.sl (by first | omega | (simp only [lr]; omega)) (by decide) ?_
      intro a_152 c_153 w_154 ho_155 K_156 hm_157 hrm_158
      have pr_159 : ¬ own a_152 b := hm_157.not pr_12 hb.lt
      have pr_160 : ¬ own a_152 b_1 := hm_157.not pr_13 hb_4.lt
      have pr_161 : ∀ q_, own a_152 q_ → ¬ own aL q_ := hm_157.apart pr_14 hoL.own_lt
      have pr_162 : ∀ q_, own a_152 q_ → ¬ own aP q_ := hm_157.apart pr_15 hoP.own_lt
      have pr_163 : ∀ q_, own a_152 q_ → ¬ own (some ⟨b_140, 0, none⟩) q_ := hm_157.apart (fun q_ h1 h2 => pr_149 q_ h2 h1) ho_143.own_lt
      have pg_164 : ∀ q_, own a_152 q_ → q_ < w.heap.size → (rtabS b aL aP) q_ := hm_157.inS pr_16 K0.size
      have pw_165 : ∀ q_, own a_152 q_ → w.heap.size ≤ q_ := hm_157.ge pr_17 K0.size
      replace hb := hb.keep K_156 pr_12
      replace hb_4 := hb_4.keep K_156 pr_13
      replace hoL := hoL.keepO K_156 (fun q_ h1 h2 => pr_14 q_ h2 h1)
      replace hoP := hoP.keepO K_156 (fun q_ h1 h2 => pr_15 q_ h2 h1)
      replace ho_143 := ho_143.keepO K_156 pr_149
      replace K0 := K0.trans K_156 (fun x hlt hx => pr_16 x hx hlt)
      clear hm_157
      clear hrm_158
      refine ⟨.inr ⟨hb, hb_4, trivial⟩, ?_⟩
      refine RT.takeP (v := .slice (a_152) ((((tf (lr1 ⟨p, T.now⟩) ([], false) (knownL T.l) i).1) ++ ([(⟨p, T.now⟩ : KnownM)] : List KnownM)).length) (c_153)) 9 rfl (by kernel_rfl) (.inr ⟨hb, hb_4, trivial⟩) (fun _ => (x_assignSl rfl)) ?_
      refine RT.done (by kernel_rfl) ?_
      refine Run.region ?_
      refine RL.val (x_moveP rfl) ?_
      refine RL.val (x_moveSl rfl) ?_
      refine RL.val (x_nilCheck rfl) ?_
      refine RL.val (x_fld (o' := 2) Try.underlying94 rfl ty91 rfl rfl rfl) ?_
      refine RL.st rfl <| St1.store (v := .slice (a_152) ((((tf (lr1 ⟨p, T.now⟩) ([], false) (knownL T.l) i).1) ++ ([(⟨p, T.now⟩ : KnownM)] : List KnownM)).length) (c_153)) ty91 rfl rfl rfl (by simp [Value.cells, Value.oneCell']) hb (by simp) ?_
      intro w_166 hb_ K_167
      have hb' : Blk w_166 b [.int .i64 (T.self), .int .i64 (T.now), .slice (a_152) ((((tf (lr1 ⟨p, T.now⟩) ([], false) (knownL T.l) i).1) ++ ([(⟨p, T.now⟩ : KnownM)] : List KnownM)).length) (c_153), .slice (aP) (T.pings.length) (cP), .int .i64 (T.req), .bool (T.begun), .int .i64 (T.last), .int .i64 (T.target)] 94 := hb_
      clear hb_
      replace hb_4 := hb_4.keep K_167 (by simp only [one]; omega)
      replace hoL := hoL.keepO K_167 (fun q_ hq_ eq_ => hapL (by simp only [one] at eq_; rw [← eq_]; exact hq_))
      replace hoP := hoP.keepO K_167 (fun q_ hq_ eq_ => hapP (by simp only [one] at eq_; rw [← eq_]; exact hq_))
      replace ho_143 := ho_143.keepO K_167 (fun q_ hq_ eq_ => pr_145 (by simp only [one] at eq_; rw [← eq_]; exact hq_))
      replace ho_155 := ho_155.keepO K_167 (fun q_ hq_ eq_ => pr_159 (by simp only [one] at eq_; rw [← eq_]; exact hq_))
      replace K0 := K0.trans K_167 (fun x _ hx => by simp only [one] at hx; subst hx; exact (Or.inl rfl))
      replace hb := hb'
      clear hb'
      refine RL.nil ?_
      refine Run.fin0 Try.func50 rfl ?_
      have hil : i = (knownL T.l).length := by omega
      have hla := lr_all ok hp hps
      have htf : tf (lr1 ⟨p, T.now⟩) ([], false) (knownL T.l) i = (knownL T.l).foldl (lr1 ⟨p, T.now⟩) ([], false) := by rw [hil, tf, List.take_length]
      rw [← htf] at hla
      simp only at hla
      rw [if_pos hc64] at hla
      have eL_169 : ((tf (lr1 ⟨p, T.now⟩) ([], false) (knownL T.l) i).1) ++ ([(⟨p, T.now⟩ : KnownM)] : List KnownM) = knownL (learnT T p).l := hla
      rw [eL_169] at hb ho_155
      have hR_168 : RTabAt w_166 b a_152 c_153 aP cP (learnT T p) := ⟨hb, ho_155, hoP, pr_159, hapP, pr_162, (learnT_ok ok hp), (learn_nev nv hpn hp.1 ok.self0.1)⟩
      have pt_170 : ¬ rtabS b a_152 aP b_1 := (fun h1 => h1.elim (fun e => absurd e (by omega)) (fun h1 => h1.elim (fun h => pr_160 h) (fun h => pr_8 h)))
      have pt_171 : ∀ q_, rtabS b a_152 aP q_ → ¬ own aL q_ := (fun q_ h1 h2 => h1.elim (fun e => hapL (e ▸ h2)) (fun h1 => h1.elim (fun h => pr_161 q_ h h2) (fun h => (fun q_ h1 h2 => hapLP q_ h2 h1) q_ h h2)))
      have pt_172 : ∀ q_, rtabS b a_152 aP q_ → ¬ own (some ⟨b_140, 0, none⟩) q_ := (fun q_ h1 h2 => h1.elim (fun e => pr_145 (e ▸ h2)) (fun h1 => h1.elim (fun h => pr_163 q_ h h2) (fun h => (fun q_ h1 h2 => pr_148 q_ h2 h1) q_ h h2)))
      have pt_173 : ∀ q_, rtabS b a_152 aP q_ → q_ < w.heap.size → (rtabS b aL aP) q_ := (fun q_ h1 hlt => h1.elim (fun e => e ▸ (Or.inl rfl)) (fun h1 => h1.elim (fun h => pg_164 q_ h hlt) (fun h => (fun x h _ => Or.inr (Or.inr h)) q_ h hlt)))
      clear hb ho_155 hoP
      exact ⟨_, rfl, a_152, c_153, aP, cP, rfl, hR_168, rtabMoved' (fun x hx hlt => pt_173 x (.inr (.inl hx)) hlt) (fun x hx hlt => pt_173 x (.inr (.inr hx)) hlt), K0⟩
    · try simp only [br] at hc64
      refine Run.skip ?_
      refine Run.region ?_
      refine RL.val (x_moveP rfl) ?_
      refine RL.val (x_moveSl rfl) ?_
      refine RL.val (x_nilCheck rfl) ?_
      refine RL.val (x_fld (o' := 2) Try.underlying94 rfl ty91 rfl rfl rfl) ?_
      refine RL.st rfl <| St1.store (v := .slice (an) (((tf (lr1 ⟨p, T.now⟩) ([], false) (knownL T.l) i).1).length) (cn)) ty91 rfl rfl rfl (by simp [Value.cells, Value.oneCell']) hb (by simp) ?_
      intro w_174 hb_ K_175
      have hb' : Blk w_174 b [.int .i64 (T.self), .int .i64 (T.now), .slice (an) (((tf (lr1 ⟨p, T.now⟩) ([], false) (knownL T.l) i).1).length) (cn), .slice (aP) (T.pings.length) (cP), .int .i64 (T.req), .bool (T.begun), .int .i64 (T.last), .int .i64 (T.target)] 94 := hb_
      clear hb_
      replace hb_4 := hb_4.keep K_175 (by simp only [one]; omega)
      replace hoL := hoL.keepO K_175 (fun q_ hq_ eq_ => hapL (by simp only [one] at eq_; rw [← eq_]; exact hq_))
      replace hoP := hoP.keepO K_175 (fun q_ hq_ eq_ => hapP (by simp only [one] at eq_; rw [← eq_]; exact hq_))
      replace ho_11 := ho_11.keepO K_175 (fun q_ hq_ eq_ => pr_12 (by simp only [one] at eq_; rw [← eq_]; exact hq_))
      replace K0 := K0.trans K_175 (fun x _ hx => by simp only [one] at hx; subst hx; exact (Or.inl rfl))
      replace hb := hb'
      clear hb'
      refine RL.nil ?_
      refine Run.fin0 Try.func50 rfl ?_
      have hil : i = (knownL T.l).length := by omega
      have hla := lr_all ok hp hps
      have htf : tf (lr1 ⟨p, T.now⟩) ([], false) (knownL T.l) i = (knownL T.l).foldl (lr1 ⟨p, T.now⟩) ([], false) := by rw [hil, tf, List.take_length]
      rw [← htf] at hla
      simp only at hla
      rw [if_neg (by simp [hc64])] at hla
      have eL_177 : (tf (lr1 ⟨p, T.now⟩) ([], false) (knownL T.l) i).1 = knownL (learnT T p).l := hla
      rw [eL_177] at hb ho_11
      have hR_176 : RTabAt w_174 b an cn aP cP (learnT T p) := ⟨hb, ho_11, hoP, pr_12, hapP, pr_15, (learnT_ok ok hp), (learn_nev nv hpn hp.1 ok.self0.1)⟩
      have pt_178 : ¬ rtabS b an aP b_1 := (fun h1 => h1.elim (fun e => absurd e (by omega)) (fun h1 => h1.elim (fun h => pr_13 h) (fun h => pr_8 h)))
      have pt_179 : ∀ q_, rtabS b an aP q_ → ¬ own aL q_ := (fun q_ h1 h2 => h1.elim (fun e => hapL (e ▸ h2)) (fun h1 => h1.elim (fun h => pr_14 q_ h h2) (fun h => (fun q_ h1 h2 => hapLP q_ h2 h1) q_ h h2)))
      have pt_180 : ∀ q_, rtabS b an aP q_ → q_ < w.heap.size → (rtabS b aL aP) q_ := (fun q_ h1 hlt => h1.elim (fun e => e ▸ (Or.inl rfl)) (fun h1 => h1.elim (fun h => pr_16 q_ h hlt) (fun h => (fun x h _ => Or.inr (Or.inr h)) q_ h hlt)))
      clear hb ho_11 hoP
      exact ⟨_, rfl, an, cn, aP, cP, rfl, hR_176, rtabMoved' (fun x hx hlt => pt_180 x (.inr (.inl hx)) hlt) (fun x hx hlt => pt_180 x (.inr (.inr hx)) hlt), K0⟩

end Go.Proofs.Ytagfdmdajmkddaa
