/-
  Layer 22's reference as a whole; Send.
-/
import Derived.Test.YtdlaoncjiolckaaGreatRows
import Derived.Test.YtdlaoncjiolckaaGreatRc
namespace Go.Proofs.YtdlaoncjiolckaaGreat
attribute [local irreducible] St1 RL RA RT RT1 Run

/-- the reference: its blocks, what it has; the messages it holds have the property RP -/
def RefAt (RP : MV → Six → Prop) (w : World) (r : Nat) (F : Nat → Prop) (nodes id now : Int) (pv : List (Int × MV)) (cs : List LinkC) : Prop :=
  ∃ aL cL aC cC ks cu, F = rS r aL aC cu ∧ pv = ks.map Pk.p ∧ cs = cu.map CutR.l ∧ (∀ p ∈ ks, RP p.v p.s ∧ twoB nodes p.v.frm p.v.to = true) ∧ RefO w r aL cL aC cC nodes id now ks cu
def RStep (RP : MV → Six → Prop) (r : Nat) (F : Nat → Prop) (w : World) (val : Value) (nodes id now : Int) (pv : List (Int × MV)) (cs : List LinkC) : Value → World → Prop := fun v w' => ∃ F', v = val ∧ RefAt RP w' r F' nodes id now pv cs ∧ MovedS w F F' ∧ Keeps F w w'
def TRStep (RP : MV → Six → Prop) (r : Nat) (F : Nat → Prop) (w : World) (E : Int) (V : MV) (nodes id now : Int) (pv : List (Int × MV)) (cs : List LinkC) : Value → World → Prop := fun v w' => ∃ F' s, v = .tuple #[mval V s, .int .i64 E] ∧ RefAt RP w' r F' nodes id now pv cs ∧ (RP V s ∨ (V = nilV ∧ s = nilS)) ∧ MovedS w F F' ∧ Keeps F w w'
def fgP (n : Int) (pv : List (Int × MV)) : List (Int × MV) := pv.filter (fun x => fkB n x.2)
def fgN (n : Int) (pv : List (Int × MV)) : Int := (pv.length : Int) - ((fgP n pv).length : Int)
section
variable {RP : MV → Six → Prop} {w w' : World} {S F : Nat → Prop} {r j : Nat} {nodes id now i n x y : Int} {pv : List (Int × MV)} {cs : List LinkC} {ks : List Pk} {p : Pk} {v : MV} {s : Six}
theorem RefAt.own_lt (h : RefAt RP w r F nodes id now pv cs) : ∀ q, F q → q < w.heap.size := by obtain ⟨_, _, _, _, _, _, rfl, _, _, _, h⟩ := h; exact h.own_lt
theorem RefAt.keepO (h : RefAt RP w r F nodes id now pv cs) (k : Keeps S w w') (hn : ∀ q, F q → ¬ S q) : RefAt RP w' r F nodes id now pv cs := by
  obtain ⟨aL, cL, aC, cC, ks, cu, rfl, h1, h2, h3, h⟩ := h; exact ⟨aL, cL, aC, cC, ks, cu, rfl, h1, h2, h3, h.keepO k hn⟩
theorem RefAt.ext (h : RefAt RP w r F nodes id now pv cs) (k : Ext w w') : RefAt RP w' r F nodes id now pv cs := h.keepO k fun _ _ h => h
theorem RefAt.ok (h : RefAt RP w r F nodes id now pv cs) : WOk nodes id now pv := by obtain ⟨_, _, _, _, _, _, rfl, rfl, _, _, h⟩ := h; exact h.ok
theorem mid_at (hp : ks[j]? = some p) : ks = ks.take j ++ p :: ks.drop (j + 1) := by
  obtain ⟨hj, rfl⟩ := List.getElem?_eq_some_iff.1 hp
  rw [List.getElem_cons_drop, List.take_append_drop]
theorem del_none (h : ¬ ∃ p ∈ ks, p.id = i) : delP (ks.map Pk.p) i = ks.map Pk.p := List.filter_eq_self.2 fun x hx => by
  obtain ⟨y, hy, rfl⟩ := List.mem_map.1 hx
  exact decide_eq_true fun e => h ⟨y, hy, e⟩
theorem fg_map : (fkL n ks).map Pk.p = fgP n (ks.map Pk.p) := by
  unfold fkL fgP
  rw [List.filter_map]; rfl
theorem loseRD (h : RefAt RP w r F nodes id now pv cs) (i : Int) : Calls Tryz.prog 21 #[.pointer (some ⟨r, 0, none⟩), .int .i64 i] w (Ret (RStep RP r F w (.int .i64 (loseE pv i)) nodes id now (delP pv i) cs)) := by
  obtain ⟨aL, cL, aC, cC, ks, cu, rfl, rfl, rfl, hRP, hD⟩ := h
  refine ret_mono (loseRO r aL cL aC cC nodes id now ks cu i w hD) fun v w' h => ?_
  rcases h with ⟨hno, rfl, a', c', d', e', h1, h2, h3⟩ | ⟨j, p, hp, hpi, rfl, a', c', d', e', h1, h2, h3⟩
  · have e : loseE (ks.map Pk.p) i = 221 := by rw [loseE, getP_no hno]; rfl
    rw [e, del_none hno]
    exact ⟨_, rfl, ⟨a', c', d', e', ks, cu, rfl, rfl, rfl, hRP, h1⟩, h2, h3⟩
  · have hm := List.mem_of_getElem? hp
    have e : loseE (ks.map Pk.p) i = 0 := by rw [loseE, getP_in hD.ok.rise hm hpi]; rfl
    rw [e, ← del_mid2 hD.ok.rise (mid_at hp) hpi]
    exact ⟨_, rfl, ⟨a', c', d', e', _, cu, rfl, rfl, rfl, fun p hp => hRP p (mid_mem p hp), h1⟩, h2, h3⟩
theorem twiceRD (h : RefAt RP w r F nodes id now pv cs) (i : Int) (hid : id ≤ 100000000) : Calls Tryz.prog 23 #[.pointer (some ⟨r, 0, none⟩), .int .i64 i] w (Ret (RStep RP r F w (.int .i64 (twiceE pv i)) nodes (twiceN id pv i) now (twiceL id pv i) cs)) := by
  obtain ⟨aL, cL, aC, cC, ks, cu, rfl, rfl, rfl, hRP, hD⟩ := h
  refine ret_mono (twiceRO r aL cL aC cC nodes id now ks cu i w hD hid (fun p hp => (hRP p hp).2)) fun v w' h => ?_
  rcases h with ⟨hno, rfl, a', c', d', e', h1, h2, h3⟩ | ⟨⟨p, hp, hpi⟩, hl, rfl, a', c', d', e', h1, h2, h3⟩ | ⟨p, hp, hpi, hl, rfl, a', c', d', e', h1, h2, h3⟩
  · have e : twiceE (ks.map Pk.p) i = 221 := by rw [twiceE, getP_no hno]
    have e2 : twiceN id (ks.map Pk.p) i = id := by rw [twiceN, e]; rfl
    have e3 : twiceL id (ks.map Pk.p) i = ks.map Pk.p := by rw [twiceL, e]; rfl
    rw [e, e2, e3]
    exact ⟨_, rfl, ⟨a', c', d', e', ks, cu, rfl, rfl, rfl, hRP, h1⟩, h2, h3⟩
  · have e : twiceE (ks.map Pk.p) i = 7 := by rw [twiceE, getP_in hD.ok.rise hp hpi]; simp only; rw [if_neg (by rw [List.length_map]; omega)]
    have e2 : twiceN id (ks.map Pk.p) i = id := by rw [twiceN, e]; rfl
    have e3 : twiceL id (ks.map Pk.p) i = ks.map Pk.p := by rw [twiceL, e]; rfl
    rw [e, e2, e3]
    exact ⟨_, rfl, ⟨a', c', d', e', ks, cu, rfl, rfl, rfl, hRP, h1⟩, h2, h3⟩
  · have hg := getP_in hD.ok.rise hp hpi
    have e : twiceE (ks.map Pk.p) i = 0 := by rw [twiceE, hg]; simp only; rw [if_pos (by rw [List.length_map]; omega)]
    have e2 : twiceN id (ks.map Pk.p) i = id + 1 := by rw [twiceN, if_pos e]
    have e3 : twiceL id (ks.map Pk.p) i = (ks ++ [(⟨id + 1, p.v, p.s⟩ : Pk)]).map Pk.p := by rw [twiceL, if_pos e, hg, List.map_append]; rfl
    rw [e, e2, e3]
    refine ⟨_, rfl, ⟨a', c', d', e', _, cu, rfl, rfl, rfl, fun q hq => ?_, h1⟩, h2, h3⟩
    rcases List.mem_append.1 hq with hq | hq
    · exact hRP q hq
    · simp only [List.mem_singleton] at hq; subst hq; exact hRP p hp
theorem takeRD (h : RefAt RP w r F nodes id now pv cs) (i : Int) : Calls Tryz.prog 18 #[.pointer (some ⟨r, 0, none⟩), .int .i64 i] w (Ret (TRStep RP r F w (takeE nodes cs pv i) (takeV nodes cs pv i) nodes id now (takeL nodes cs pv i) cs)) := by
  obtain ⟨aL, cL, aC, cC, ks, cu, rfl, rfl, rfl, hRP, hD⟩ := h
  refine ret_mono (takeRO r aL cL aC cC nodes id now ks cu i w hD) fun v w' h => ?_
  rcases h with ⟨hno, rfl, a', c', d', e', h1, h2, h3⟩ | ⟨p, hp, hpi, hlk, rfl, a', c', d', e', h1, h2, h3⟩ | ⟨j, p, hpj, hpi, hlk, rfl, a', c', d', e', h1, h2, h3⟩
  · have e : takeE nodes (cu.map CutR.l) (ks.map Pk.p) i = 221 := by rw [takeE, getP_no hno]
    have e2 : takeV nodes (cu.map CutR.l) (ks.map Pk.p) i = nilV := by rw [takeV, e]; rfl
    have e3 : takeL nodes (cu.map CutR.l) (ks.map Pk.p) i = ks.map Pk.p := by rw [takeL, e]; rfl
    rw [e, e2, e3]
    exact ⟨_, nilS, rfl, ⟨a', c', d', e', ks, cu, rfl, rfl, rfl, hRP, h1⟩, .inr ⟨rfl, rfl⟩, h2, h3⟩
  · have e : takeE nodes (cu.map CutR.l) (ks.map Pk.p) i = 220 := by rw [takeE, getP_in hD.ok.rise hp hpi]; simp [hlk]
    have e2 : takeV nodes (cu.map CutR.l) (ks.map Pk.p) i = nilV := by rw [takeV, e]; rfl
    have e3 : takeL nodes (cu.map CutR.l) (ks.map Pk.p) i = ks.map Pk.p := by rw [takeL, e]; rfl
    rw [e, e2, e3]
    exact ⟨_, nilS, rfl, ⟨a', c', d', e', ks, cu, rfl, rfl, rfl, hRP, h1⟩, .inr ⟨rfl, rfl⟩, h2, h3⟩
  · have hp := List.mem_of_getElem? hpj
    have hg := getP_in hD.ok.rise hp hpi
    have e : takeE nodes (cu.map CutR.l) (ks.map Pk.p) i = 0 := by rw [takeE, hg]; simp [hlk]
    have e2 : takeV nodes (cu.map CutR.l) (ks.map Pk.p) i = p.v := by rw [takeV, if_pos e, hg]; rfl
    have e3 : takeL nodes (cu.map CutR.l) (ks.map Pk.p) i = (ks.take j ++ ks.drop (j + 1)).map Pk.p := by rw [takeL, if_pos e, del_mid2 hD.ok.rise (mid_at hpj) hpi]
    rw [e, e2, e3]
    exact ⟨_, p.s, rfl, ⟨a', c', d', e', _, cu, rfl, rfl, rfl, fun p hp => hRP p (mid_mem p hp), h1⟩, .inl (hRP p hp).1, h2, h3⟩
theorem cutRD (h : RefAt RP w r F nodes id now pv cs) (x y : Int) (hc : cs.length ≤ 100000) : Calls Tryz.prog 25 #[.pointer (some ⟨r, 0, none⟩), .int .i64 x, .int .i64 y] w (Ret (RStep RP r F w (.int .i64 (cutE nodes cs x y)) nodes id now pv (cutL nodes cs x y))) := by
  obtain ⟨aL, cL, aC, cC, ks, cu, rfl, rfl, rfl, hRP, hD⟩ := h
  refine ret_mono (cutRW r aL cL aC cC nodes id now ks cu x y w hD (by rwa [List.length_map] at hc)) fun v w' h => ?_
  obtain ⟨cv, rfl, e, -, a', c', d', e', h1, h2, h3⟩ := h
  exact ⟨_, rfl, ⟨a', c', d', e', ks, cv, rfl, rfl, e.symm, hRP, h1⟩, h2, h3⟩
theorem mendRD (h : RefAt RP w r F nodes id now pv cs) (x y : Int) : Calls Tryz.prog 27 #[.pointer (some ⟨r, 0, none⟩), .int .i64 x, .int .i64 y] w (Ret (RStep RP r F w (.int .i64 (mendE nodes cs x y)) nodes id now pv (mendL nodes cs x y))) := by
  obtain ⟨aL, cL, aC, cC, ks, cu, rfl, rfl, rfl, hRP, hD⟩ := h
  refine ret_mono (mendRW r aL cL aC cC nodes id now ks cu x y w hD) fun v w' h => ?_
  obtain ⟨cv, rfl, e, -, a', c', d', e', h1, h2, h3⟩ := h
  exact ⟨_, rfl, ⟨a', c', d', e', ks, cv, rfl, rfl, e.symm, hRP, h1⟩, h2, h3⟩
theorem passRD (h : RefAt RP w r F nodes id now pv cs) (i : Int) : Calls Tryz.prog 28 #[.pointer (some ⟨r, 0, none⟩), .int .i64 i] w (Ret (RStep RP r F w (.int .i64 (passE now i)) nodes id (passN now i) pv cs)) := by
  obtain ⟨aL, cL, aC, cC, ks, cu, rfl, rfl, rfl, hRP, hD⟩ := h
  refine ret_mono (passRW r aL cL aC cC nodes id now ks cu i w hD) fun v w' h => ?_
  obtain ⟨rfl, a', c', d', e', h1, h2, h3⟩ := h
  exact ⟨_, rfl, ⟨a', c', d', e', ks, cu, rfl, rfl, rfl, hRP, h1⟩, h2, h3⟩
theorem forgetRD (h : RefAt RP w r F nodes id now pv cs) (i : Int) : Calls Tryz.prog 30 #[.pointer (some ⟨r, 0, none⟩), .int .i64 i] w (Ret (RStep RP r F w (.int .i64 (fgN i pv)) nodes id now (fgP i pv) cs)) := by
  obtain ⟨aL, cL, aC, cC, ks, cu, rfl, rfl, rfl, hRP, hD⟩ := h
  refine ret_mono (forgetRO r aL cL aC cC nodes id now ks cu i w hD) fun v w' h => ?_
  obtain ⟨rfl, a', c', d', e', h1, h2, h3⟩ := h
  have e : fgN i (ks.map Pk.p) = (ks.length : Int) - ((fkL i ks).length : Int) := by unfold fgN; rw [← fg_map, List.length_map, List.length_map]
  rw [e]
  exact ⟨_, rfl, ⟨a', c', d', e', _, cu, rfl, fg_map.symm, rfl, fun p hp => hRP p (fk_sub.subset hp), h1⟩, h2, h3⟩
theorem linkedRD (h : RefAt RP w r F nodes id now pv cs) (x y : Int) : Calls Tryz.prog 33 #[.pointer (some ⟨r, 0, none⟩), .int .i64 x, .int .i64 y] w (Ret fun v w' => v = .bool (linkedB nodes cs x y) ∧ Ext w w') := by
  obtain ⟨aL, cL, aC, cC, ks, cu, rfl, rfl, rfl, hRP, hD⟩ := h
  exact linkedR r aL cL aC cC nodes id now ks cu x y w hD
theorem putRD (h : RefAt RP w r F nodes id now pv cs) (v : MV) (s : Six) (hv : RP v s) (hid : id ≤ 100000000) : Calls Tryz.prog 44 #[.pointer (some ⟨r, 0, none⟩), mval v s] w (Ret fun b w' => (twoB nodes v.frm v.to = true ∧ pv.length < 512 ∧ RStep RP r F w (.bool true) nodes (id + 1) now (pv ++ [(id + 1, v)]) cs b w') ∨ (¬ (twoB nodes v.frm v.to = true ∧ pv.length < 512) ∧ RStep RP r F w (.bool false) nodes id now pv cs b w')) := by
  obtain ⟨aL, cL, aC, cC, ks, cu, rfl, rfl, rfl, hRP, hD⟩ := h
  rw [List.length_map]
  refine ret_mono (putR r aL cL aC cC nodes id now ks cu v s w hD hid) fun b w' h => ?_
  rcases h with ⟨hn, rfl, a', c', d', e', h1, h2, h3⟩ | ⟨ht, hl, rfl, a', c', d', e', h1, h2, h3⟩
  · exact .inr ⟨hn, _, rfl, ⟨a', c', d', e', ks, cu, rfl, rfl, rfl, hRP, h1⟩, h2, h3⟩
  · refine .inl ⟨ht, hl, _, rfl, ⟨a', c', d', e', _, cu, rfl, by rw [List.map_append]; rfl, rfl, fun q hq => ?_, h1⟩, h2, h3⟩
    rcases List.mem_append.1 hq with hq | hq
    · exact hRP q hq
    · simp only [List.mem_singleton] at hq; subst hq; exact ⟨hv, ht⟩
end
theorem newRD (RP : MV → Six → Prop) (nodes : Int) (w : World) : Calls Tryz.prog 5 #[.int .i64 nodes] w (Ret fun v w' => (¬ (1 ≤ nodes ∧ nodes ≤ 8) ∧ v = .tuple #[.pointer none, .int .i64 1] ∧ Ext w w') ∨
    ((1 ≤ nodes ∧ nodes ≤ 8) ∧ ∃ r F, v = .tuple #[.pointer (some ⟨r, 0, none⟩), .int .i64 0] ∧ RefAt RP w' r F nodes 0 0 [] [] ∧ (∀ q, F q → w.heap.size ≤ q) ∧ Ext w w')) := by
  refine ret_mono (newR nodes w) fun v w' h => ?_
  rcases h with h | ⟨h1, r, h2, h3, h4, h5⟩
  · exact .inl h
  · refine .inr ⟨h1, r, _, h2, ⟨_, _, _, _, [], [], rfl, rfl, rfl, fun _ h => absurd h (by simp), h3⟩, ?_, h5⟩
    rintro q (rfl | h | h | h)
    · exact h4
    · exact absurd h (own_none q)
    · exact absurd h (own_none q)
    · exact absurd h (cuts_nil q)



set_option maxRecDepth 100000 in
set_option maxHeartbeats 4000000 in
theorem sendRD {RP : MV → Six → Prop} (r : Nat) (F : Nat → Prop) (nodes id now : Int) (pv : List (Int × MV)) (cs : List LinkC) (al : Option Addr) (ms : List Mg) (lc : Nat) (w : World) (hR : RefAt RP w r F nodes id now pv cs) (hl : SlOf w al (ms.map Mg.c)) (hld : ∀ x, al = some x → ms.map Mg.c ≠ [] → ¬ F x.block) (hms : ∀ m ∈ ms, RP m.v m.s) (hml : ms.length ≤ 1048576) (hid : id ≤ 10000000) :
    Calls Tryz.prog 17 #[.pointer (some ⟨r, 0, none⟩), .slice (al) ((ms.map Mg.c).length) (lc)] w (Ret (RStep RP r F w (.int .i64 (((snI nodes id pv (ms.map Mg.v) ms.length).n : Nat) : Int)) nodes (snI nodes id pv (ms.map Mg.v) ms.length).id now (snI nodes id pv (ms.map Mg.v) ms.length).pv cs)) := by
  have hmc : (ms.map Mg.c).length = ms.length := List.length_map ..
  have hmv0 : (ms.map Mg.v).length = ms.length := List.length_map ..
  have hlen0 := hR.ok.len
  refine calls_run (n := 22) Tryz.func17 rfl rfl rfl ?_
  refine Run.seq ?_
  refine Run.region ?_
  refine RL.val (x_assignI rfl) ?_
  refine RL.nil ?_
  refine Run.seq ?_
  refine Run.region ?_
  refine RL.val (x_assignI rfl) ?_
  refine RL.nil ?_
  refine Run.seq ?_
  refine Run.seq ?_
  refine Run.region ?_
  refine RL.val (x_assignI rfl) ?_
  refine RL.nil ?_
  refine Run.block ?_
  refine Run.loop (ι := Nat) (fun i ρ' w' => ∃ F1 : Nat → Prop, Holds ρ' [(0, .pointer (some ⟨r, 0, none⟩)), (1, .slice (al) ((ms.map Mg.c).length) (lc)), (5, .int .i64 ((((snI nodes id pv (ms.map Mg.v) i).n : Nat) : Int))), (6, .int .i64 (((i : Nat) : Int)))] ∧ Keeps F w w' ∧ (RefAt RP w' r F1 nodes ((snI nodes id pv (ms.map Mg.v) i).id) now ((snI nodes id pv (ms.map Mg.v) i).pv) cs) ∧ (∀ q_, F1 q_ → q_ < w.heap.size → F q_) ∧ (i ≤ ms.length)) (fun i => ms.length - i) 0 ?_ ?_
  · rw [show (snI nodes id pv (ms.map Mg.v) 0).id = id from rfl, show (snI nodes id pv (ms.map Mg.v) 0).n = 0 from rfl, show (snI nodes id pv (ms.map Mg.v) 0).pv = pv from rfl]
    refine ⟨_, ⟨rfl, rfl, rfl, rfl, trivial⟩, (Keeps.refl _ w), hR, (fun q_ h_ _ => h_), ?_⟩
    · omega
  clear hR
  rintro i ρ_5 w_1 ⟨F1, hH_2, K0, hO_3, pr_4, hi⟩ ih1
  obtain ⟨ρ₀, rfl⟩ := hH_2.ex
  clear hH_2
  refine Run.seq ?_
  refine Run.seq ?_
  refine Run.region ?_
  refine RL.val (x_moveI rfl) ?_
  refine RL.val (x_moveSl rfl) ?_
  refine RL.val (x_lenSl Tryz.underlying31 rfl) ?_
  refine RL.val (x_ltI rfl rfl) ?_
  refine RL.nil ?_
  refine Run.cond rfl (fun hc10 => ?_) (fun hc10 => ?_)
  · try simp only [br] at hc10
    refine Run.skip ?_
    refine Run.seq ?_
    refine Run.block ?_
    refine Run.seq ?_
    obtain ⟨x0, hx0⟩ : ∃ x, (ms.map Mg.c)[i]? = some x := ⟨_, List.getElem?_eq_getElem (by omega)⟩
    obtain ⟨m, hm, hxe, hmv⟩ := mg_get hx0
    subst hxe
    obtain ⟨hb1, hb2, hb3, hb4⟩ := sn_b (nodes := nodes) (id := id) (vs := ms.map Mg.v) (pv := pv) hlen0 i (by omega)
    refine Run.region ?_
    refine RL.val (x_moveP rfl) ?_
    refine RL.val (x_moveSl rfl) ?_
    refine RL.val (x_moveI rfl) ?_
    obtain ⟨b_6, o_7, x_10, hx_11, ha_8, hc_9⟩ := hl.el (i := i) (by first | omega | (simp only [List.length_set]; omega))
    have hc_9_lt := hc_9.lt
    replace hc_9 := hc_9.keep K0 (hld _ ha_8 (ne_get hx_11))
    obtain rfl : (mkC m.v m.s) = x_10 := Option.some.inj (hx0.symm.trans hx_11)
    refine RL.val (x_idxN Tryz.underlying31 ty57 rfl rfl ha_8 (by first | omega | (simp only [List.length_set]; omega))) ?_
    refine RL.val (x_ldV (v := .agg #[.int .i64 (((mkC m.v m.s)).kind), .int .i64 (((mkC m.v m.s)).frm), .int .i64 (((mkC m.v m.s)).to), .int .i64 (((mkC m.v m.s)).req), .string (((mkC m.v m.s)).key), .slice (m.s.ea) (m.v.ent.length) (m.s.ec), .slice (m.s.ma) (m.v.mrk.length) (m.s.mc), .slice (m.s.ca) (m.v.cl.length) (m.s.cc), .int .i64 (((mkC m.v m.s)).owner), .int .i64 (((mkC m.v m.s)).part), .int .i64 (((mkC m.v m.s)).n), .int .i64 ((((mkC m.v m.s)).ring).parts), .int .i64 ((((mkC m.v m.s)).ring).copies), .int .i64 ((((mkC m.v m.s)).ring).spots), .slice (m.s.ba) (m.v.mem.length) (m.s.bc), .slice (m.s.pa) (m.v.pe.length) (m.s.pc), .slice (m.s.sa) (m.v.su.length) (m.s.sc)]) (y := (mkC m.v m.s)) ty57 rfl hc_9 rfl) ?_
    refine RL.st rfl <| St1.call (vals := [.pointer (some ⟨r, 0, none⟩), .agg #[.int .i64 (((mkC m.v m.s)).kind), .int .i64 (((mkC m.v m.s)).frm), .int .i64 (((mkC m.v m.s)).to), .int .i64 (((mkC m.v m.s)).req), .string (((mkC m.v m.s)).key), .slice (m.s.ea) (m.v.ent.length) (m.s.ec), .slice (m.s.ma) (m.v.mrk.length) (m.s.mc), .slice (m.s.ca) (m.v.cl.length) (m.s.cc), .int .i64 (((mkC m.v m.s)).owner), .int .i64 (((mkC m.v m.s)).part), .int .i64 (((mkC m.v m.s)).n), .int .i64 ((((mkC m.v m.s)).ring).parts), .int .i64 ((((mkC m.v m.s)).ring).copies), .int .i64 ((((mkC m.v m.s)).ring).spots), .slice (m.s.ba) (m.v.mem.length) (m.s.bc), .slice (m.s.pa) (m.v.pe.length) (m.s.pc), .slice (m.s.sa) (m.v.su.length) (m.s.sc)]]) en44 rfl (putRD hO_3 m.v m.s (hms m (mem_of_at hm)) (by omega)) ?_
    rintro _ w_13 (⟨ht_17, hlt_18, F_12, rfl, hS_14, hm_15, K_16⟩ | ⟨ht_17, F_12, rfl, hS_14, hm_15, K_16⟩)
    · have pg_19 : ∀ q_, F_12 q_ → q_ < w.heap.size → F q_ := hm_15.inS pr_4 K0.size
      replace hc_9 := hc_9.keep K_16 (fun h => hld _ ha_8 (ne_get hx_11) (pr_4 _ h hc_9_lt))
      replace K0 := K0.trans K_16 (fun x hlt hx => pr_4 x hx hlt)
      clear hm_15
      refine RL.nil ?_
      refine Run.condT rfl ?_
      refine Run.region ?_
      refine RL.val (x_moveI rfl) ?_
      refine RL.val (litI (c := ((((snI nodes id pv (ms.map Mg.v) i).n) + 1 : Nat) : Int)) (x_add rfl rfl (by omega) (by omega)) rfl) ?_
      refine RL.val (x_assignI rfl) ?_
      refine RL.nil ?_
      refine Run.inBlock ?_
      refine Run.region ?_
      refine RL.val (x_moveI rfl) ?_
      refine RL.val (litI (c := ((i + 1 : Nat) : Int)) (x_add rfl rfl (by omega) (by omega)) rfl) ?_
      refine RL.val (x_assignI rfl) ?_
      refine RL.nil ?_
      have e := sn_yes (nodes := nodes) (id := id) (pv := pv) hmv ht_17 hlt_18
      have e1 : (snI nodes id pv (ms.map Mg.v) (i + 1)).id = (snI nodes id pv (ms.map Mg.v) i).id + 1 := by rw [e]
      have e2 : (snI nodes id pv (ms.map Mg.v) (i + 1)).n = (snI nodes id pv (ms.map Mg.v) i).n + 1 := by rw [e]
      have e3 : (snI nodes id pv (ms.map Mg.v) (i + 1)).pv = (snI nodes id pv (ms.map Mg.v) i).pv ++ [((snI nodes id pv (ms.map Mg.v) i).id + 1, m.v)] := by rw [e]
      refine ih1 (i + 1) _ _ ?_ (by omega)
      rw [e1, e2, e3]
      refine ⟨F_12, ⟨rfl, rfl, rfl, rfl, trivial⟩, K0, hS_14, pg_19, ?_⟩
      · omega
    · have pg_20 : ∀ q_, F_12 q_ → q_ < w.heap.size → F q_ := hm_15.inS pr_4 K0.size
      replace hc_9 := hc_9.keep K_16 (fun h => hld _ ha_8 (ne_get hx_11) (pr_4 _ h hc_9_lt))
      replace K0 := K0.trans K_16 (fun x hlt hx => pr_4 x hx hlt)
      clear hm_15
      refine RL.nil ?_
      refine Run.condF rfl ?_
      refine Run.skip ?_
      refine Run.inBlock ?_
      refine Run.region ?_
      refine RL.val (x_moveI rfl) ?_
      refine RL.val (litI (c := ((i + 1 : Nat) : Int)) (x_add rfl rfl (by omega) (by omega)) rfl) ?_
      refine RL.val (x_assignI rfl) ?_
      refine RL.nil ?_
      have e : snI nodes id pv (ms.map Mg.v) (i + 1) = (snI nodes id pv (ms.map Mg.v) i) := by rw [sn_succ hmv, snStep, if_neg ht_17]
      refine ih1 (i + 1) _ _ ?_ (by omega)
      rw [e]
      refine ⟨F_12, ⟨rfl, rfl, rfl, rfl, trivial⟩, K0, hS_14, pg_20, ?_⟩
      · omega
  · try simp only [br] at hc10
    refine Run.exit rfl ?_
    refine Run.seq ?_
    refine Run.region ?_
    refine RL.val (x_moveI rfl) ?_
    refine RL.val (x_assignI rfl) ?_
    refine RL.nil ?_
    refine Run.ret1 (v := .int .i64 ((((snI nodes id pv (ms.map Mg.v) i).n : Nat) : Int))) Tryz.func17 rfl rfl ?_
    have hil : i = ms.length := by omega
    subst hil
    exact ⟨_, rfl, _, rfl, hO_3, (moved_of pr_4), K0⟩

end Go.Proofs.YtdlaoncjiolckaaGreat
