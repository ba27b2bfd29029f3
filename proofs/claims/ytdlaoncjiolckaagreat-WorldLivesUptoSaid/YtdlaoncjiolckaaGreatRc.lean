/-
  Layer 22's reference: Take, Lose, Twice, Forget.
-/
import Derived.Test.YtdlaoncjiolckaaGreatRows
import Derived.Test.YtdlaoncjiolckaaGreatRb
namespace Go.Proofs.YtdlaoncjiolckaaGreat
attribute [local irreducible] St1 RL RA RT RT1 Run

theorem rS_case {r : Nat} {aL aC : Option Addr} {cu : List CutR} : ∀ q, rS r aL aC cu q → q = r ∨ (own aL q ∨ (own aC q ∨ cutsS cu q)) := fun _ h => h
def fkB (n : Int) (v : MV) : Bool := v.frm != n && v.to != n
def fkL (n : Int) (ks : List Pk) : List Pk := ks.filter (fun p => fkB n p.v)
section
variable {ks : List Pk} {n : Int} {i : Nat} {p : Pk}
theorem fk_yes (hp : ks[i]? = some p) (h : fkB n p.v = true) : fkL n (ks.take (i + 1)) = fkL n (ks.take i) ++ [p] := by
  obtain ⟨hi, rfl⟩ := List.getElem?_eq_some_iff.1 hp
  unfold fkL
  rw [List.take_succ_eq_append_getElem hi, List.filter_append, List.filter_cons, if_pos h]; rfl
theorem fk_no (hp : ks[i]? = some p) (h : fkB n p.v = false) : fkL n (ks.take (i + 1)) = fkL n (ks.take i) := by
  obtain ⟨hi, rfl⟩ := List.getElem?_eq_some_iff.1 hp
  unfold fkL
  rw [List.take_succ_eq_append_getElem hi, List.filter_append, List.filter_cons, if_neg (by rw [h]; decide), List.filter_nil, List.append_nil]
theorem fk_all (h : ks.length ≤ i) : fkL n (ks.take i) = fkL n ks := by rw [List.take_of_length_le h]
theorem fk_len : (fkL n ks).length ≤ ks.length := List.length_filter_le _ _
theorem fk_sub : (fkL n ks).Sublist ks := List.filter_sublist
end

theorem en33 : Enters Tryz.prog 33 := enters_of Tryz.func33 rfl (by kernel_rfl)
theorem en44 : Enters Tryz.prog 44 := enters_of Tryz.func44 rfl (by kernel_rfl)
theorem en45 : Enters Tryz.prog 45 := enters_of Tryz.func45 rfl (by kernel_rfl)
theorem en46 : Enters Tryz.prog 46 := enters_of Tryz.func46 rfl (by kernel_rfl)

set_option maxRecDepth 100000 in
set_option maxHeartbeats 4000000 in
theorem loseRO (r : Nat) (aL : Option Addr) (cL : Nat) (aC : Option Addr) (cC : Nat) (nodes id now : Int) (ks : List Pk) (cu : List CutR) (i : Int) (w : World) (hD : RefO w r aL cL aC cC nodes id now ks cu) :
    Calls Tryz.prog 21 #[.pointer (some ⟨r, 0, none⟩), .int .i64 (i)] w (Ret (fun v w' => ((¬ ∃ p ∈ ks, p.id = i) ∧ v = .int .i64 221 ∧ ∃ a' c' d' e', RefO w' r a' c' d' e' nodes id now ks cu ∧ MovedS w (rS r aL aC cu) (rS r a' d' cu) ∧ Keeps (rS r aL aC cu) w w') ∨ (∃ j p, ks[j]? = some p ∧ p.id = i ∧ v = .int .i64 0 ∧ ∃ a' c' d' e', RefO w' r a' c' d' e' nodes id now (ks.take j ++ ks.drop (j + 1)) cu ∧ MovedS w (rS r aL aC cu) (rS r a' d' cu) ∧ Keeps (rS r aL aC cu) w w'))) := by
  obtain ⟨hB, hL, hC, hU, hn1, hn2, hn3, hn4, hn5, hn6, hok, hcl⟩ := hD
  obtain ⟨hno1, hno2⟩ := hok.nodes
  obtain ⟨hnw1, hnw2⟩ := hok.now
  have hid0 := hok.id0
  have hl5 := hok.len
  rw [p_len] at hl5
  have hkl : (ks.map Pk.k).length = ks.length := List.length_map ..
  have hcul : (cu.map CutR.sh).length = cu.length := List.length_map ..
  refine calls_run (n := 14) Tryz.func21 rfl rfl rfl ?_
  refine Run.seq ?_
  refine Run.region ?_
  refine RL.val (x_assignI rfl) ?_
  refine RL.nil ?_
  refine Run.seq ?_
  refine Run.region ?_
  refine RL.val (x_moveP rfl) ?_
  refine RL.val (x_moveI rfl) ?_
  refine RL.st rfl <| St1.call (vals := [.pointer (some ⟨r, 0, none⟩), .int .i64 (i)]) en45 rfl (findR r aL cL aC cC nodes id now ks cu i _ (⟨hB, hL, hC, hU, hn1, hn2, hn3, hn4, hn5, hn6, hok, hcl⟩ : RefO _ r aL cL aC cC nodes id now ks cu)) ?_
  rintro _ w_3 (⟨j_1, p_2, hp_5, hi_6, rfl, K_4⟩ | ⟨hn_7, rfl, K_4⟩)
  · replace hB := hB.ext K_4
    replace hL := hL.ext K_4
    replace hC := hC.ext K_4
    replace hU := hU.ext K_4
    have K0 := (K_4 : Ext w _).to (S := (rS r aL aC cu))
    have hjl_j_1 := (List.getElem?_eq_some_iff.1 hp_5).1
    refine RL.val (x_assignI rfl) ?_
    refine RL.nil ?_
    refine Run.seq ?_
    refine Run.seq ?_
    refine Run.region ?_
    refine RL.val (x_moveI rfl) ?_
    refine RL.val (litF (x_ltI rfl rfl) (by simp)) ?_
    refine RL.nil ?_
    refine Run.condF rfl ?_
    refine Run.skip ?_
    refine Run.seq ?_
    refine Run.region ?_
    refine RL.val (x_moveP rfl) ?_
    refine RL.val (x_moveI rfl) ?_
    have hE_8 : RefO w_3 r aL cL aC cC nodes id now ks cu := ⟨hB, hL, hC, hU, hn1, hn2, hn3, hn4, hn5, hn6, hok, hcl⟩
    have pg_9 : ∀ q_, rS r aL aC cu q_ → q_ < w.heap.size → (rS r aL aC cu) q_ := fun q_ x_ hl_ => (rS_case _ x_).elim (fun e_ => e_ ▸ (Or.inl rfl)) (fun y_ => y_.elim (fun y_ => (fun q_ h_ _ => Or.inr (Or.inl h_)) q_ y_ hl_) (fun y_ => y_.elim (fun y_ => (fun q_ h_ _ => Or.inr (Or.inr (Or.inl h_))) q_ y_ hl_) (fun y_ => (fun y_ => (fun q_ h_ _ => Or.inr (Or.inr (Or.inr h_))) q_ y_ hl_) y_)))
    refine RL.st rfl <| St1.call (vals := [.pointer (some ⟨r, 0, none⟩), .int .i64 (((j_1 : Nat) : Int))]) en46 rfl (withoutR r aL cL aC cC nodes id now ks cu j_1 _ hE_8 (by omega)) ?_
    rintro _ w_16 ⟨rfl, a_10, c_11, d_12, e_13, hE_14, hm_15, K_17⟩
    have pg_18 : ∀ q_, rS r a_10 d_12 cu q_ → q_ < w.heap.size → (rS r aL aC cu) q_ := hm_15.inS pg_9 K0.size
    replace K0 := K0.trans K_17 (fun x hlt hx => pg_9 x hx hlt)
    clear hm_15
    refine RL.nil ?_
    refine Run.seq ?_
    refine Run.region ?_
    refine RL.val (x_assignI rfl) ?_
    refine RL.nil ?_
    refine Run.ret1 (v := .int .i64 (0)) Tryz.func21 rfl rfl ?_
    exact ⟨_, rfl, .inr ⟨j_1, p_2, hp_5, hi_6, rfl, _, _, _, _, hE_14, (moved_of pg_18), K0⟩⟩
  · replace hB := hB.ext K_4
    replace hL := hL.ext K_4
    replace hC := hC.ext K_4
    replace hU := hU.ext K_4
    have K0 := (K_4 : Ext w _).to (S := (rS r aL aC cu))
    refine RL.val (x_assignI rfl) ?_
    refine RL.nil ?_
    refine Run.seq ?_
    refine Run.seq ?_
    refine Run.region ?_
    refine RL.val (x_moveI rfl) ?_
    refine RL.val (litT (x_ltI rfl rfl) (by decide)) ?_
    refine RL.nil ?_
    refine Run.condT rfl ?_
    refine Run.seq ?_
    refine Run.region ?_
    refine RL.val (x_assignI rfl) ?_
    refine RL.nil ?_
    refine Run.ret1 (v := .int .i64 (221)) Tryz.func21 rfl rfl ?_
    exact ⟨_, rfl, .inl ⟨hn_7, rfl, _, _, _, _, ⟨hB, hL, hC, hU, hn1, hn2, hn3, hn4, hn5, hn6, hok, hcl⟩, (moved_of (rS_elim (Or.inl rfl) (fun q_ h_ _ => Or.inr (Or.inl h_)) (fun q_ h_ _ => Or.inr (Or.inr (Or.inl h_))) (fun q_ h_ _ => Or.inr (Or.inr (Or.inr h_))))), K0⟩⟩

set_option maxRecDepth 100000 in
set_option maxHeartbeats 4000000 in
theorem twiceRO (r : Nat) (aL : Option Addr) (cL : Nat) (aC : Option Addr) (cC : Nat) (nodes id now : Int) (ks : List Pk) (cu : List CutR) (i : Int) (w : World) (hD : RefO w r aL cL aC cC nodes id now ks cu) (hid : id ≤ 100000000) (htw : ∀ p ∈ ks, twoB nodes p.v.frm p.v.to = true) :
    Calls Tryz.prog 23 #[.pointer (some ⟨r, 0, none⟩), .int .i64 (i)] w (Ret (fun v w' => ((¬ ∃ p ∈ ks, p.id = i) ∧ v = .int .i64 221 ∧ ∃ a' c' d' e', RefO w' r a' c' d' e' nodes id now ks cu ∧ MovedS w (rS r aL aC cu) (rS r a' d' cu) ∧ Keeps (rS r aL aC cu) w w') ∨ ((∃ p ∈ ks, p.id = i) ∧ 512 ≤ ks.length ∧ v = .int .i64 7 ∧ ∃ a' c' d' e', RefO w' r a' c' d' e' nodes id now ks cu ∧ MovedS w (rS r aL aC cu) (rS r a' d' cu) ∧ Keeps (rS r aL aC cu) w w') ∨ (∃ p ∈ ks, p.id = i ∧ ks.length < 512 ∧ v = .int .i64 0 ∧ ∃ a' c' d' e', RefO w' r a' c' d' e' nodes (id + 1) now (ks ++ [(⟨id + 1, p.v, p.s⟩ : Pk)]) cu ∧ MovedS w (rS r aL aC cu) (rS r a' d' cu) ∧ Keeps (rS r aL aC cu) w w'))) := by
  obtain ⟨hB, hL, hC, hU, hn1, hn2, hn3, hn4, hn5, hn6, hok, hcl⟩ := hD
  obtain ⟨hno1, hno2⟩ := hok.nodes
  obtain ⟨hnw1, hnw2⟩ := hok.now
  have hid0 := hok.id0
  have hl5 := hok.len
  rw [p_len] at hl5
  have hkl : (ks.map Pk.k).length = ks.length := List.length_map ..
  have hcul : (cu.map CutR.sh).length = cu.length := List.length_map ..
  refine calls_run (n := 22) Tryz.func23 rfl rfl rfl ?_
  refine Run.seq ?_
  refine Run.region ?_
  refine RL.val (x_assignI rfl) ?_
  refine RL.nil ?_
  refine Run.seq ?_
  refine Run.region ?_
  refine RL.val (x_moveP rfl) ?_
  refine RL.val (x_moveI rfl) ?_
  refine RL.st rfl <| St1.call (vals := [.pointer (some ⟨r, 0, none⟩), .int .i64 (i)]) en45 rfl (findR r aL cL aC cC nodes id now ks cu i _ (⟨hB, hL, hC, hU, hn1, hn2, hn3, hn4, hn5, hn6, hok, hcl⟩ : RefO _ r aL cL aC cC nodes id now ks cu)) ?_
  rintro _ w_3 (⟨j_1, p_2, hp_5, hi_6, rfl, K_4⟩ | ⟨hn_7, rfl, K_4⟩)
  · replace hB := hB.ext K_4
    replace hL := hL.ext K_4
    replace hC := hC.ext K_4
    replace hU := hU.ext K_4
    have K0 := (K_4 : Ext w _).to (S := (rS r aL aC cu))
    have hjl_j_1 := (List.getElem?_eq_some_iff.1 hp_5).1
    refine RL.val (x_assignI rfl) ?_
    refine RL.nil ?_
    refine Run.seq ?_
    refine Run.seq ?_
    refine Run.region ?_
    refine RL.val (x_moveI rfl) ?_
    refine RL.val (litF (x_ltI rfl rfl) (by simp)) ?_
    refine RL.nil ?_
    refine Run.condF rfl ?_
    refine Run.skip ?_
    refine Run.seq ?_
    refine Run.seq ?_
    have hkx_8 : (ks.map Pk.k)[j_1]? = some (kC p_2.id p_2.v p_2.s) := by rw [List.getElem?_map, hp_5]; rfl
    refine Run.region ?_
    refine RL.val (x_moveP rfl) ?_
    refine RL.val (x_moveP rfl) ?_
    refine RL.val (x_nilCheck rfl) ?_
    refine RL.val (x_fld (o' := 1) Tryz.underlying39 rfl ty36 rfl rfl rfl) ?_
    refine RL.val (x_ld (v := .slice (aL) ((ks.map Pk.k).length) (cL)) ty36 rfl rfl (hB.cl.field (i := 1) rfl)) ?_
    refine RL.val (x_moveI rfl) ?_
    obtain ⟨b_9, o_10, x_13, hx_14, ha_11, hc_12⟩ := hL.sl.el (i := j_1) (by first | omega | (simp only [List.length_set]; omega))
    obtain rfl : (kC p_2.id p_2.v p_2.s) = x_13 := Option.some.inj (hkx_8.symm.trans hx_14)
    refine RL.val (x_idxN Tryz.underlying36 ty59 rfl rfl ha_11 (by first | omega | (simp only [List.length_set]; omega))) ?_
    refine RL.val (x_fld (o' := o_10 + j_1 * 18 + 1) Tryz.underlying59 rfl ty57 rfl rfl rfl) ?_
    refine RL.val (litV (v' := .agg #[.int .i64 (((mkC p_2.v p_2.s)).kind), .int .i64 (((mkC p_2.v p_2.s)).frm), .int .i64 (((mkC p_2.v p_2.s)).to), .int .i64 (((mkC p_2.v p_2.s)).req), .string (((mkC p_2.v p_2.s)).key), .slice (p_2.s.ea) (p_2.v.ent.length) (p_2.s.ec), .slice (p_2.s.ma) (p_2.v.mrk.length) (p_2.s.mc), .slice (p_2.s.ca) (p_2.v.cl.length) (p_2.s.cc), .int .i64 (((mkC p_2.v p_2.s)).owner), .int .i64 (((mkC p_2.v p_2.s)).part), .int .i64 (((mkC p_2.v p_2.s)).n), .int .i64 ((((mkC p_2.v p_2.s)).ring).parts), .int .i64 ((((mkC p_2.v p_2.s)).ring).copies), .int .i64 ((((mkC p_2.v p_2.s)).ring).spots), .slice (p_2.s.ba) (p_2.v.mem.length) (p_2.s.bc), .slice (p_2.s.pa) (p_2.v.pe.length) (p_2.s.pc), .slice (p_2.s.sa) (p_2.v.su.length) (p_2.s.sc)]) (x_lds (cs := #[.int .i64 ((((kC p_2.id p_2.v p_2.s)).msg).kind), .int .i64 ((((kC p_2.id p_2.v p_2.s)).msg).frm), .int .i64 ((((kC p_2.id p_2.v p_2.s)).msg).to), .int .i64 ((((kC p_2.id p_2.v p_2.s)).msg).req), .string ((((kC p_2.id p_2.v p_2.s)).msg).key), .slice (p_2.s.ea) (p_2.v.ent.length) (p_2.s.ec), .slice (p_2.s.ma) (p_2.v.mrk.length) (p_2.s.mc), .slice (p_2.s.ca) (p_2.v.cl.length) (p_2.s.cc), .int .i64 ((((kC p_2.id p_2.v p_2.s)).msg).owner), .int .i64 ((((kC p_2.id p_2.v p_2.s)).msg).part), .int .i64 ((((kC p_2.id p_2.v p_2.s)).msg).n), .int .i64 (((((kC p_2.id p_2.v p_2.s)).msg).ring).parts), .int .i64 (((((kC p_2.id p_2.v p_2.s)).msg).ring).copies), .int .i64 (((((kC p_2.id p_2.v p_2.s)).msg).ring).spots), .slice (p_2.s.ba) (p_2.v.mem.length) (p_2.s.bc), .slice (p_2.s.pa) (p_2.v.pe.length) (p_2.s.pc), .slice (p_2.s.sa) (p_2.v.su.length) (p_2.s.sc)]) ty57 rfl rfl (hc_12.drop 1 17)) rfl) ?_
    have hE_15 : RefO w_3 r aL cL aC cC nodes id now ks cu := ⟨hB, hL, hC, hU, hn1, hn2, hn3, hn4, hn5, hn6, hok, hcl⟩
    clear hc_12
    have pg_16 : ∀ q_, rS r aL aC cu q_ → q_ < w.heap.size → (rS r aL aC cu) q_ := fun q_ x_ hl_ => (rS_case _ x_).elim (fun e_ => e_ ▸ (Or.inl rfl)) (fun y_ => y_.elim (fun y_ => (fun q_ h_ _ => Or.inr (Or.inl h_)) q_ y_ hl_) (fun y_ => y_.elim (fun y_ => (fun q_ h_ _ => Or.inr (Or.inr (Or.inl h_))) q_ y_ hl_) (fun y_ => (fun y_ => (fun q_ h_ _ => Or.inr (Or.inr (Or.inr h_))) q_ y_ hl_) y_)))
    refine RL.st rfl <| St1.call (vals := [.pointer (some ⟨r, 0, none⟩), .agg #[.int .i64 (((mkC p_2.v p_2.s)).kind), .int .i64 (((mkC p_2.v p_2.s)).frm), .int .i64 (((mkC p_2.v p_2.s)).to), .int .i64 (((mkC p_2.v p_2.s)).req), .string (((mkC p_2.v p_2.s)).key), .slice (p_2.s.ea) (p_2.v.ent.length) (p_2.s.ec), .slice (p_2.s.ma) (p_2.v.mrk.length) (p_2.s.mc), .slice (p_2.s.ca) (p_2.v.cl.length) (p_2.s.cc), .int .i64 (((mkC p_2.v p_2.s)).owner), .int .i64 (((mkC p_2.v p_2.s)).part), .int .i64 (((mkC p_2.v p_2.s)).n), .int .i64 ((((mkC p_2.v p_2.s)).ring).parts), .int .i64 ((((mkC p_2.v p_2.s)).ring).copies), .int .i64 ((((mkC p_2.v p_2.s)).ring).spots), .slice (p_2.s.ba) (p_2.v.mem.length) (p_2.s.bc), .slice (p_2.s.pa) (p_2.v.pe.length) (p_2.s.pc), .slice (p_2.s.sa) (p_2.v.su.length) (p_2.s.sc)]]) en44 rfl (putR r aL cL aC cC nodes id now ks cu p_2.v p_2.s _ hE_15 (by omega)) ?_
    rintro _ w_23 (⟨hp_25, rfl, a_17, c_18, d_19, e_20, hE_21, hm_22, K_24⟩ | ⟨hp_25, hp_26, rfl, a_17, c_18, d_19, e_20, hE_21, hm_22, K_24⟩)
    · have pg_27 : ∀ q_, rS r a_17 d_19 cu q_ → q_ < w.heap.size → (rS r aL aC cu) q_ := hm_22.inS pg_16 K0.size
      replace K0 := K0.trans K_24 (fun x hlt hx => pg_16 x hx hlt)
      clear hm_22
      refine RL.val (x_not (b := false) rfl) ?_
      refine RL.nil ?_
      refine Run.condT rfl ?_
      refine Run.seq ?_
      refine Run.region ?_
      refine RL.val (x_assignI rfl) ?_
      refine RL.nil ?_
      refine Run.ret1 (v := .int .i64 (7)) Tryz.func23 rfl rfl ?_
      have h5 : 512 ≤ ks.length := by
        by_cases h_ : ks.length < 512
        · exact absurd ⟨htw _ (List.mem_of_getElem? hp_5), h_⟩ hp_25
        · omega
      exact ⟨_, rfl, .inr (.inl ⟨⟨p_2, List.mem_of_getElem? hp_5, hi_6⟩, h5, rfl, _, _, _, _, hE_21, (moved_of pg_27), K0⟩)⟩
    · have pg_28 : ∀ q_, rS r a_17 d_19 cu q_ → q_ < w.heap.size → (rS r aL aC cu) q_ := hm_22.inS pg_16 K0.size
      replace K0 := K0.trans K_24 (fun x hlt hx => pg_16 x hx hlt)
      clear hm_22
      refine RL.val (x_not (b := true) rfl) ?_
      refine RL.nil ?_
      refine Run.condF rfl ?_
      refine Run.skip ?_
      refine Run.seq ?_
      refine Run.region ?_
      refine RL.val (x_assignI rfl) ?_
      refine RL.nil ?_
      refine Run.ret1 (v := .int .i64 (0)) Tryz.func23 rfl rfl ?_
      exact ⟨_, rfl, .inr (.inr ⟨p_2, List.mem_of_getElem? hp_5, hi_6, hp_26, rfl, _, _, _, _, hE_21, (moved_of pg_28), K0⟩)⟩
  · replace hB := hB.ext K_4
    replace hL := hL.ext K_4
    replace hC := hC.ext K_4
    replace hU := hU.ext K_4
    have K0 := (K_4 : Ext w _).to (S := (rS r aL aC cu))
    refine RL.val (x_assignI rfl) ?_
    refine RL.nil ?_
    refine Run.seq ?_
    refine Run.seq ?_
    refine Run.region ?_
    refine RL.val (x_moveI rfl) ?_
    refine RL.val (litT (x_ltI rfl rfl) (by decide)) ?_
    refine RL.nil ?_
    refine Run.condT rfl ?_
    refine Run.seq ?_
    refine Run.region ?_
    refine RL.val (x_assignI rfl) ?_
    refine RL.nil ?_
    refine Run.ret1 (v := .int .i64 (221)) Tryz.func23 rfl rfl ?_
    exact ⟨_, rfl, .inl ⟨hn_7, rfl, _, _, _, _, ⟨hB, hL, hC, hU, hn1, hn2, hn3, hn4, hn5, hn6, hok, hcl⟩, (moved_of (rS_elim (Or.inl rfl) (fun q_ h_ _ => Or.inr (Or.inl h_)) (fun q_ h_ _ => Or.inr (Or.inr (Or.inl h_))) (fun q_ h_ _ => Or.inr (Or.inr (Or.inr h_))))), K0⟩⟩

set_option maxRecDepth 100000 in
set_option maxHeartbeats 4000000 in
theorem takeRO (r : Nat) (aL : Option Addr) (cL : Nat) (aC : Option Addr) (cC : Nat) (nodes id now : Int) (ks : List Pk) (cu : List CutR) (i : Int) (w : World) (hD : RefO w r aL cL aC cC nodes id now ks cu) :
    Calls Tryz.prog 18 #[.pointer (some ⟨r, 0, none⟩), .int .i64 (i)] w (Ret (fun v w' => ((¬ ∃ p ∈ ks, p.id = i) ∧ v = .tuple #[.agg #[.int .i64 (((mkC nilV nilS)).kind), .int .i64 (((mkC nilV nilS)).frm), .int .i64 (((mkC nilV nilS)).to), .int .i64 (((mkC nilV nilS)).req), .string (((mkC nilV nilS)).key), .slice (nilS.ea) (nilV.ent.length) (nilS.ec), .slice (nilS.ma) (nilV.mrk.length) (nilS.mc), .slice (nilS.ca) (nilV.cl.length) (nilS.cc), .int .i64 (((mkC nilV nilS)).owner), .int .i64 (((mkC nilV nilS)).part), .int .i64 (((mkC nilV nilS)).n), .int .i64 ((((mkC nilV nilS)).ring).parts), .int .i64 ((((mkC nilV nilS)).ring).copies), .int .i64 ((((mkC nilV nilS)).ring).spots), .slice (nilS.ba) (nilV.mem.length) (nilS.bc), .slice (nilS.pa) (nilV.pe.length) (nilS.pc), .slice (nilS.sa) (nilV.su.length) (nilS.sc)], .int .i64 221] ∧ ∃ a' c' d' e', RefO w' r a' c' d' e' nodes id now ks cu ∧ MovedS w (rS r aL aC cu) (rS r a' d' cu) ∧ Keeps (rS r aL aC cu) w w') ∨ ((∃ p ∈ ks, p.id = i ∧ linkedB nodes (cu.map CutR.l) p.v.frm p.v.to = false ∧ v = .tuple #[.agg #[.int .i64 (((mkC nilV nilS)).kind), .int .i64 (((mkC nilV nilS)).frm), .int .i64 (((mkC nilV nilS)).to), .int .i64 (((mkC nilV nilS)).req), .string (((mkC nilV nilS)).key), .slice (nilS.ea) (nilV.ent.length) (nilS.ec), .slice (nilS.ma) (nilV.mrk.length) (nilS.mc), .slice (nilS.ca) (nilV.cl.length) (nilS.cc), .int .i64 (((mkC nilV nilS)).owner), .int .i64 (((mkC nilV nilS)).part), .int .i64 (((mkC nilV nilS)).n), .int .i64 ((((mkC nilV nilS)).ring).parts), .int .i64 ((((mkC nilV nilS)).ring).copies), .int .i64 ((((mkC nilV nilS)).ring).spots), .slice (nilS.ba) (nilV.mem.length) (nilS.bc), .slice (nilS.pa) (nilV.pe.length) (nilS.pc), .slice (nilS.sa) (nilV.su.length) (nilS.sc)], .int .i64 220] ∧ ∃ a' c' d' e', RefO w' r a' c' d' e' nodes id now ks cu ∧ MovedS w (rS r aL aC cu) (rS r a' d' cu) ∧ Keeps (rS r aL aC cu) w w') ∨ (∃ j p, ks[j]? = some p ∧ p.id = i ∧ linkedB nodes (cu.map CutR.l) p.v.frm p.v.to = true ∧ v = .tuple #[.agg #[.int .i64 (((mkC p.v p.s)).kind), .int .i64 (((mkC p.v p.s)).frm), .int .i64 (((mkC p.v p.s)).to), .int .i64 (((mkC p.v p.s)).req), .string (((mkC p.v p.s)).key), .slice (p.s.ea) (p.v.ent.length) (p.s.ec), .slice (p.s.ma) (p.v.mrk.length) (p.s.mc), .slice (p.s.ca) (p.v.cl.length) (p.s.cc), .int .i64 (((mkC p.v p.s)).owner), .int .i64 (((mkC p.v p.s)).part), .int .i64 (((mkC p.v p.s)).n), .int .i64 ((((mkC p.v p.s)).ring).parts), .int .i64 ((((mkC p.v p.s)).ring).copies), .int .i64 ((((mkC p.v p.s)).ring).spots), .slice (p.s.ba) (p.v.mem.length) (p.s.bc), .slice (p.s.pa) (p.v.pe.length) (p.s.pc), .slice (p.s.sa) (p.v.su.length) (p.s.sc)], .int .i64 0] ∧ ∃ a' c' d' e', RefO w' r a' c' d' e' nodes id now (ks.take j ++ ks.drop (j + 1)) cu ∧ MovedS w (rS r aL aC cu) (rS r a' d' cu) ∧ Keeps (rS r aL aC cu) w w')))) := by
  obtain ⟨hB, hL, hC, hU, hn1, hn2, hn3, hn4, hn5, hn6, hok, hcl⟩ := hD
  obtain ⟨hno1, hno2⟩ := hok.nodes
  obtain ⟨hnw1, hnw2⟩ := hok.now
  have hid0 := hok.id0
  have hl5 := hok.len
  rw [p_len] at hl5
  have hkl : (ks.map Pk.k).length = ks.length := List.length_map ..
  have hcul : (cu.map CutR.sh).length = cu.length := List.length_map ..
  refine calls_run (n := 34) Tryz.func18 rfl rfl rfl ?_
  refine Run.seq ?_
  refine Run.region ?_
  refine RL.st rfl <| St1.alloc ty57 ?_
  intro b_1 w_2 hl_5 hb_4 K_3
  replace hb_4 : Blk w_2 b_1 [.int .i64 (0), .int .i64 (0), .int .i64 (0), .int .i64 (0), .string (⟨#[]⟩), .slice (none) (0) (0), .slice (none) (0) (0), .slice (none) (0) (0), .int .i64 (0), .int .i64 (0), .int .i64 (0), .int .i64 (0), .int .i64 (0), .int .i64 (0), .slice (none) (0) (0), .slice (none) (0) (0), .slice (none) (0) (0)] 57 := hb_4
  have ne_6 : r < b_1 := Nat.lt_of_lt_of_le hB.lt hl_5
  have pr_7 : ¬ own aL b_1 := fun h => absurd (hL.own_lt _ h) (by omega)
  have pr_8 : ¬ own aC b_1 := fun h => absurd (hC.own_lt _ h) (by omega)
  have pr_9 : ¬ cutsS cu b_1 := fun h => absurd (hU.own_lt _ h) (by omega)
  have : w.heap.size ≤ b_1 := hl_5
  clear hl_5
  replace hB := hB.ext K_3
  replace hL := hL.ext K_3
  replace hC := hC.ext K_3
  replace hU := hU.ext K_3
  have K0 := (K_3 : Ext w _).to (S := (rS r aL aC cu))
  refine RL.val (x_assignI rfl) ?_
  refine RL.nil ?_
  refine Run.seq ?_
  refine Run.region ?_
  refine RL.val (x_moveP rfl) ?_
  refine RL.val (x_moveI rfl) ?_
  refine RL.st rfl <| St1.call (vals := [.pointer (some ⟨r, 0, none⟩), .int .i64 (i)]) en45 rfl (findR r aL cL aC cC nodes id now ks cu i _ (⟨hB, hL, hC, hU, hn1, hn2, hn3, hn4, hn5, hn6, hok, hcl⟩ : RefO _ r aL cL aC cC nodes id now ks cu)) ?_
  rintro _ w_12 (⟨j_10, p_11, hp_14, hi_15, rfl, K_13⟩ | ⟨hn_16, rfl, K_13⟩)
  · replace hB := hB.ext K_13
    replace hL := hL.ext K_13
    replace hC := hC.ext K_13
    replace hU := hU.ext K_13
    replace hb_4 := hb_4.ext K_13
    replace K0 := K0.ext K_13
    have hjl_j_10 := (List.getElem?_eq_some_iff.1 hp_14).1
    refine RL.val (x_assignI rfl) ?_
    refine RL.nil ?_
    refine Run.seq ?_
    refine Run.seq ?_
    refine Run.region ?_
    refine RL.val (x_moveI rfl) ?_
    refine RL.val (litF (x_ltI rfl rfl) (by simp)) ?_
    refine RL.nil ?_
    refine Run.condF rfl ?_
    refine Run.skip ?_
    refine Run.seq ?_
    have hkx_17 : (ks.map Pk.k)[j_10]? = some (kC p_11.id p_11.v p_11.s) := by rw [List.getElem?_map, hp_14]; rfl
    refine Run.region ?_
    refine RL.val (x_moveP rfl) ?_
    refine RL.val (x_nilCheck rfl) ?_
    refine RL.val (x_fld (o' := 1) Tryz.underlying39 rfl ty36 rfl rfl rfl) ?_
    refine RL.val (x_ld (v := .slice (aL) ((ks.map Pk.k).length) (cL)) ty36 rfl rfl (hB.cl.field (i := 1) rfl)) ?_
    refine RL.val (x_moveI rfl) ?_
    obtain ⟨b_18, o_19, x_22, hx_23, ha_20, hc_21⟩ := hL.sl.el (i := j_10) (by first | omega | (simp only [List.length_set]; omega))
    obtain rfl : (kC p_11.id p_11.v p_11.s) = x_22 := Option.some.inj (hkx_17.symm.trans hx_23)
    refine RL.val (x_idxN Tryz.underlying36 ty59 rfl rfl ha_20 (by first | omega | (simp only [List.length_set]; omega))) ?_
    refine RL.val (x_fld (o' := o_19 + j_10 * 18 + 1) Tryz.underlying59 rfl ty57 rfl rfl rfl) ?_
    refine RL.val (litV (v' := .agg #[.int .i64 (((mkC p_11.v p_11.s)).kind), .int .i64 (((mkC p_11.v p_11.s)).frm), .int .i64 (((mkC p_11.v p_11.s)).to), .int .i64 (((mkC p_11.v p_11.s)).req), .string (((mkC p_11.v p_11.s)).key), .slice (p_11.s.ea) (p_11.v.ent.length) (p_11.s.ec), .slice (p_11.s.ma) (p_11.v.mrk.length) (p_11.s.mc), .slice (p_11.s.ca) (p_11.v.cl.length) (p_11.s.cc), .int .i64 (((mkC p_11.v p_11.s)).owner), .int .i64 (((mkC p_11.v p_11.s)).part), .int .i64 (((mkC p_11.v p_11.s)).n), .int .i64 ((((mkC p_11.v p_11.s)).ring).parts), .int .i64 ((((mkC p_11.v p_11.s)).ring).copies), .int .i64 ((((mkC p_11.v p_11.s)).ring).spots), .slice (p_11.s.ba) (p_11.v.mem.length) (p_11.s.bc), .slice (p_11.s.pa) (p_11.v.pe.length) (p_11.s.pc), .slice (p_11.s.sa) (p_11.v.su.length) (p_11.s.sc)]) (x_lds (cs := #[.int .i64 ((((kC p_11.id p_11.v p_11.s)).msg).kind), .int .i64 ((((kC p_11.id p_11.v p_11.s)).msg).frm), .int .i64 ((((kC p_11.id p_11.v p_11.s)).msg).to), .int .i64 ((((kC p_11.id p_11.v p_11.s)).msg).req), .string ((((kC p_11.id p_11.v p_11.s)).msg).key), .slice (p_11.s.ea) (p_11.v.ent.length) (p_11.s.ec), .slice (p_11.s.ma) (p_11.v.mrk.length) (p_11.s.mc), .slice (p_11.s.ca) (p_11.v.cl.length) (p_11.s.cc), .int .i64 ((((kC p_11.id p_11.v p_11.s)).msg).owner), .int .i64 ((((kC p_11.id p_11.v p_11.s)).msg).part), .int .i64 ((((kC p_11.id p_11.v p_11.s)).msg).n), .int .i64 (((((kC p_11.id p_11.v p_11.s)).msg).ring).parts), .int .i64 (((((kC p_11.id p_11.v p_11.s)).msg).ring).copies), .int .i64 (((((kC p_11.id p_11.v p_11.s)).msg).ring).spots), .slice (p_11.s.ba) (p_11.v.mem.length) (p_11.s.bc), .slice (p_11.s.pa) (p_11.v.pe.length) (p_11.s.pc), .slice (p_11.s.sa) (p_11.v.su.length) (p_11.s.sc)]) ty57 rfl rfl (hc_21.drop 1 17)) rfl) ?_
    refine RL.st rfl <| St1.alloc ty57 ?_
    intro b_24 w_25 hl_28 hb_27 K_26
    replace hb_27 : Blk w_25 b_24 [.int .i64 (0), .int .i64 (0), .int .i64 (0), .int .i64 (0), .string (⟨#[]⟩), .slice (none) (0) (0), .slice (none) (0) (0), .slice (none) (0) (0), .int .i64 (0), .int .i64 (0), .int .i64 (0), .int .i64 (0), .int .i64 (0), .int .i64 (0), .slice (none) (0) (0), .slice (none) (0) (0), .slice (none) (0) (0)] 57 := hb_27
    have ne_29 : r < b_24 := Nat.lt_of_lt_of_le hB.lt hl_28
    have ne_30 : b_1 < b_24 := Nat.lt_of_lt_of_le hb_4.lt hl_28
    have ne_31 : b_18 < b_24 := Nat.lt_of_lt_of_le hc_21.lt hl_28
    have pr_32 : ¬ own aL b_24 := fun h => absurd (hL.own_lt _ h) (by omega)
    have pr_33 : ¬ own aC b_24 := fun h => absurd (hC.own_lt _ h) (by omega)
    have pr_34 : ¬ cutsS cu b_24 := fun h => absurd (hU.own_lt _ h) (by omega)
    have : w.heap.size ≤ b_24 := Nat.le_trans K0.size hl_28
    clear hl_28
    replace hB := hB.ext K_26
    replace hL := hL.ext K_26
    replace hC := hC.ext K_26
    replace hU := hU.ext K_26
    replace hb_4 := hb_4.ext K_26
    replace hc_21 := hc_21.ext K_26
    replace K0 := K0.ext K_26
    refine RL.st rfl <| St1.store (v := .agg #[.int .i64 (((mkC p_11.v p_11.s)).kind), .int .i64 (((mkC p_11.v p_11.s)).frm), .int .i64 (((mkC p_11.v p_11.s)).to), .int .i64 (((mkC p_11.v p_11.s)).req), .string (((mkC p_11.v p_11.s)).key), .slice (p_11.s.ea) (p_11.v.ent.length) (p_11.s.ec), .slice (p_11.s.ma) (p_11.v.mrk.length) (p_11.s.mc), .slice (p_11.s.ca) (p_11.v.cl.length) (p_11.s.cc), .int .i64 (((mkC p_11.v p_11.s)).owner), .int .i64 (((mkC p_11.v p_11.s)).part), .int .i64 (((mkC p_11.v p_11.s)).n), .int .i64 ((((mkC p_11.v p_11.s)).ring).parts), .int .i64 ((((mkC p_11.v p_11.s)).ring).copies), .int .i64 ((((mkC p_11.v p_11.s)).ring).spots), .slice (p_11.s.ba) (p_11.v.mem.length) (p_11.s.bc), .slice (p_11.s.pa) (p_11.v.pe.length) (p_11.s.pc), .slice (p_11.s.sa) (p_11.v.su.length) (p_11.s.sc)]) ty57 rfl rfl rfl (by simp [Value.cells, Value.oneCell']) hb_27 (by simp) ?_
    intro w_35 hb_27_ K_36
    have hb_27' : Blk w_35 b_24 [.int .i64 (((mkC p_11.v p_11.s)).kind), .int .i64 (((mkC p_11.v p_11.s)).frm), .int .i64 (((mkC p_11.v p_11.s)).to), .int .i64 (((mkC p_11.v p_11.s)).req), .string (((mkC p_11.v p_11.s)).key), .slice (p_11.s.ea) (p_11.v.ent.length) (p_11.s.ec), .slice (p_11.s.ma) (p_11.v.mrk.length) (p_11.s.mc), .slice (p_11.s.ca) (p_11.v.cl.length) (p_11.s.cc), .int .i64 (((mkC p_11.v p_11.s)).owner), .int .i64 (((mkC p_11.v p_11.s)).part), .int .i64 (((mkC p_11.v p_11.s)).n), .int .i64 ((((mkC p_11.v p_11.s)).ring).parts), .int .i64 ((((mkC p_11.v p_11.s)).ring).copies), .int .i64 ((((mkC p_11.v p_11.s)).ring).spots), .slice (p_11.s.ba) (p_11.v.mem.length) (p_11.s.bc), .slice (p_11.s.pa) (p_11.v.pe.length) (p_11.s.pc), .slice (p_11.s.sa) (p_11.v.su.length) (p_11.s.sc)] 57 := hb_27_
    clear hb_27_
    replace hB := hB.keep K_36 (by simp only [one]; omega)
    replace hL := hL.keepO K_36 (fun q_ hq_ eq_ => pr_32 (by simp only [one] at eq_; rw [← eq_]; exact hq_))
    replace hC := hC.keepO K_36 (fun q_ hq_ eq_ => pr_33 (by simp only [one] at eq_; rw [← eq_]; exact hq_))
    replace hU := hU.keepO K_36 (fun q_ hq_ eq_ => pr_34 (by simp only [one] at eq_; rw [← eq_]; exact hq_))
    replace hb_4 := hb_4.keep K_36 (by simp only [one]; omega)
    replace hc_21 := hc_21.keep K_36 (fun e => pr_32 (by simp only [one] at e; rw [← e]; exact (own_sub _) _ ha_20))
    replace K0 := K0.trans K_36 (fun x hlt hx => absurd hlt (by simp only [one] at hx; omega))
    replace hb_27 := hb_27'
    clear hb_27'
    refine RL.nil ?_
    refine Run.seq ?_
    refine Run.seq ?_
    refine Run.region ?_
    refine RL.val (x_moveP rfl) ?_
    refine RL.val (x_fld (o' := 1) Tryz.underlying57 rfl ty3 rfl rfl rfl) ?_
    refine RL.val (litI (c := p_11.v.frm) (x_ld (v := .int .i64 (((mkC p_11.v p_11.s)).frm)) ty3 rfl rfl (hb_27.cl.field (i := 1) rfl)) rfl) ?_
    refine RL.val (x_fld (o' := 2) Tryz.underlying57 rfl ty3 rfl rfl rfl) ?_
    refine RL.val (litI (c := p_11.v.to) (x_ld (v := .int .i64 (((mkC p_11.v p_11.s)).to)) ty3 rfl rfl (hb_27.cl.field (i := 2) rfl)) rfl) ?_
    refine RL.st rfl <| St1.call (vals := [.pointer (some ⟨r, 0, none⟩), .int .i64 (p_11.v.frm), .int .i64 (p_11.v.to)]) en33 rfl (linkedR r aL cL aC cC nodes id now ks cu p_11.v.frm p_11.v.to _ (⟨hB, hL, hC, hU, hn1, hn2, hn3, hn4, hn5, hn6, hok, hcl⟩ : RefO _ r aL cL aC cC nodes id now ks cu)) ?_
    rintro _ w_37 ⟨rfl, K_38⟩
    replace hB := hB.ext K_38
    replace hL := hL.ext K_38
    replace hC := hC.ext K_38
    replace hU := hU.ext K_38
    replace hb_4 := hb_4.ext K_38
    replace hb_27 := hb_27.ext K_38
    replace K0 := K0.ext K_38
    refine RL.val (x_not rfl) ?_
    refine RL.nil ?_
    refine Run.cond rfl (fun hc28 => ?_) (fun hc28 => ?_)
    · try simp only [br] at hc28
      refine Run.seq ?_
      refine Run.region ?_
      refine RL.val (x_build (cells := #[.int .i64 (0), .int .i64 (0), .int .i64 (0), .int .i64 (0), .string (⟨#[]⟩), .slice (none) (0) (0), .slice (none) (0) (0), .slice (none) (0) (0), .int .i64 (0), .int .i64 (0), .int .i64 (0), .int .i64 (0), .int .i64 (0), .int .i64 (0), .slice (none) (0) (0), .slice (none) (0) (0), .slice (none) (0) (0)]) (by kernel_rfl)) ?_
      refine RL.st rfl <| St1.store (v := .agg #[.int .i64 (0), .int .i64 (0), .int .i64 (0), .int .i64 (0), .string (⟨#[]⟩), .slice (none) (0) (0), .slice (none) (0) (0), .slice (none) (0) (0), .int .i64 (0), .int .i64 (0), .int .i64 (0), .int .i64 (0), .int .i64 (0), .int .i64 (0), .slice (none) (0) (0), .slice (none) (0) (0), .slice (none) (0) (0)]) ty57 rfl rfl rfl (by simp [Value.cells, Value.oneCell']) hb_4 (by simp) ?_
      intro w_39 hb_4_ K_40
      have hb_4' : Blk w_39 b_1 [.int .i64 (0), .int .i64 (0), .int .i64 (0), .int .i64 (0), .string (⟨#[]⟩), .slice (none) (0) (0), .slice (none) (0) (0), .slice (none) (0) (0), .int .i64 (0), .int .i64 (0), .int .i64 (0), .int .i64 (0), .int .i64 (0), .int .i64 (0), .slice (none) (0) (0), .slice (none) (0) (0), .slice (none) (0) (0)] 57 := hb_4_
      clear hb_4_
      replace hB := hB.keep K_40 (by simp only [one]; omega)
      replace hL := hL.keepO K_40 (fun q_ hq_ eq_ => pr_7 (by simp only [one] at eq_; rw [← eq_]; exact hq_))
      replace hC := hC.keepO K_40 (fun q_ hq_ eq_ => pr_8 (by simp only [one] at eq_; rw [← eq_]; exact hq_))
      replace hU := hU.keepO K_40 (fun q_ hq_ eq_ => pr_9 (by simp only [one] at eq_; rw [← eq_]; exact hq_))
      replace hb_27 := hb_27.keep K_40 (by simp only [one]; omega)
      replace K0 := K0.trans K_40 (fun x hlt hx => absurd hlt (by simp only [one] at hx; omega))
      replace hb_4 := hb_4'
      clear hb_4'
      refine RL.val (x_assignI rfl) ?_
      refine RL.nil ?_
      refine Run.retCT (x := .int .i64 (220)) (cs := #[.int .i64 (0), .int .i64 (0), .int .i64 (0), .int .i64 (0), .string (⟨#[]⟩), .slice (none) (0) (0), .slice (none) (0) (0), .slice (none) (0) (0), .int .i64 (0), .int .i64 (0), .int .i64 (0), .int .i64 (0), .int .i64 (0), .int .i64 (0), .slice (none) (0) (0), .slice (none) (0) (0), .slice (none) (0) (0)]) Tryz.func18 rfl ty57 rfl rfl hb_4.cl rfl ?_
      exact ⟨_, rfl, .inr (.inl ⟨p_11, List.mem_of_getElem? hp_14, hi_15, by simpa using hc28, rfl, _, _, _, _, ⟨hB, hL, hC, hU, hn1, hn2, hn3, hn4, hn5, hn6, hok, hcl⟩, (moved_of (rS_elim (Or.inl rfl) (fun q_ h_ _ => Or.inr (Or.inl h_)) (fun q_ h_ _ => Or.inr (Or.inr (Or.inl h_))) (fun q_ h_ _ => Or.inr (Or.inr (Or.inr h_))))), K0⟩)⟩
    · try simp only [br] at hc28
      refine Run.skip ?_
      refine Run.seq ?_
      refine Run.region ?_
      refine RL.val (x_moveP rfl) ?_
      refine RL.val (x_moveI rfl) ?_
      have hE_41 : RefO w_37 r aL cL aC cC nodes id now ks cu := ⟨hB, hL, hC, hU, hn1, hn2, hn3, hn4, hn5, hn6, hok, hcl⟩
      have pr_42 : ¬ rS r aL aC cu b_1 := fun x_ => (rS_case _ x_).elim (fun e_ => absurd e_ (by omega)) (fun y_ => y_.elim pr_7 (fun y_ => y_.elim pr_8 (fun y_ => pr_9 y_)))
      have pr_43 : ¬ rS r aL aC cu b_24 := fun x_ => (rS_case _ x_).elim (fun e_ => absurd e_ (by omega)) (fun y_ => y_.elim pr_32 (fun y_ => y_.elim pr_33 (fun y_ => pr_34 y_)))
      have pg_44 : ∀ q_, rS r aL aC cu q_ → q_ < w.heap.size → (rS r aL aC cu) q_ := fun q_ x_ hl_ => (rS_case _ x_).elim (fun e_ => e_ ▸ (Or.inl rfl)) (fun y_ => y_.elim (fun y_ => (fun q_ h_ _ => Or.inr (Or.inl h_)) q_ y_ hl_) (fun y_ => y_.elim (fun y_ => (fun q_ h_ _ => Or.inr (Or.inr (Or.inl h_))) q_ y_ hl_) (fun y_ => (fun y_ => (fun q_ h_ _ => Or.inr (Or.inr (Or.inr h_))) q_ y_ hl_) y_)))
      refine RL.st rfl <| St1.call (vals := [.pointer (some ⟨r, 0, none⟩), .int .i64 (((j_10 : Nat) : Int))]) en46 rfl (withoutR r aL cL aC cC nodes id now ks cu j_10 _ hE_41 (by omega)) ?_
      rintro _ w_51 ⟨rfl, a_45, c_46, d_47, e_48, hE_49, hm_50, K_52⟩
      have pr_53 : ¬ rS r a_45 d_47 cu b_1 := hm_50.not pr_42 hb_4.lt
      have pr_54 : ¬ rS r a_45 d_47 cu b_24 := hm_50.not pr_43 hb_27.lt
      have pg_55 : ∀ q_, rS r a_45 d_47 cu q_ → q_ < w.heap.size → (rS r aL aC cu) q_ := hm_50.inS pg_44 K0.size
      replace hb_4 := hb_4.keep K_52 pr_42
      replace hb_27 := hb_27.keep K_52 pr_43
      replace K0 := K0.trans K_52 (fun x hlt hx => pg_44 x hx hlt)
      clear hm_50
      refine RL.nil ?_
      refine Run.seq ?_
      refine Run.region ?_
      refine RL.val (x_lds (cs := #[.int .i64 (((mkC p_11.v p_11.s)).kind), .int .i64 (((mkC p_11.v p_11.s)).frm), .int .i64 (((mkC p_11.v p_11.s)).to), .int .i64 (((mkC p_11.v p_11.s)).req), .string (((mkC p_11.v p_11.s)).key), .slice (p_11.s.ea) (p_11.v.ent.length) (p_11.s.ec), .slice (p_11.s.ma) (p_11.v.mrk.length) (p_11.s.mc), .slice (p_11.s.ca) (p_11.v.cl.length) (p_11.s.cc), .int .i64 (((mkC p_11.v p_11.s)).owner), .int .i64 (((mkC p_11.v p_11.s)).part), .int .i64 (((mkC p_11.v p_11.s)).n), .int .i64 ((((mkC p_11.v p_11.s)).ring).parts), .int .i64 ((((mkC p_11.v p_11.s)).ring).copies), .int .i64 ((((mkC p_11.v p_11.s)).ring).spots), .slice (p_11.s.ba) (p_11.v.mem.length) (p_11.s.bc), .slice (p_11.s.pa) (p_11.v.pe.length) (p_11.s.pc), .slice (p_11.s.sa) (p_11.v.su.length) (p_11.s.sc)]) ty57 rfl rfl (hb_27.cl.drop 0 17)) ?_
      refine RL.st rfl <| St1.store (v := .agg #[.int .i64 (((mkC p_11.v p_11.s)).kind), .int .i64 (((mkC p_11.v p_11.s)).frm), .int .i64 (((mkC p_11.v p_11.s)).to), .int .i64 (((mkC p_11.v p_11.s)).req), .string (((mkC p_11.v p_11.s)).key), .slice (p_11.s.ea) (p_11.v.ent.length) (p_11.s.ec), .slice (p_11.s.ma) (p_11.v.mrk.length) (p_11.s.mc), .slice (p_11.s.ca) (p_11.v.cl.length) (p_11.s.cc), .int .i64 (((mkC p_11.v p_11.s)).owner), .int .i64 (((mkC p_11.v p_11.s)).part), .int .i64 (((mkC p_11.v p_11.s)).n), .int .i64 ((((mkC p_11.v p_11.s)).ring).parts), .int .i64 ((((mkC p_11.v p_11.s)).ring).copies), .int .i64 ((((mkC p_11.v p_11.s)).ring).spots), .slice (p_11.s.ba) (p_11.v.mem.length) (p_11.s.bc), .slice (p_11.s.pa) (p_11.v.pe.length) (p_11.s.pc), .slice (p_11.s.sa) (p_11.v.su.length) (p_11.s.sc)]) ty57 rfl rfl rfl (by simp [Value.cells, Value.oneCell']) hb_4 (by simp) ?_
      intro w_56 hb_4_ K_57
      have hb_4' : Blk w_56 b_1 [.int .i64 (((mkC p_11.v p_11.s)).kind), .int .i64 (((mkC p_11.v p_11.s)).frm), .int .i64 (((mkC p_11.v p_11.s)).to), .int .i64 (((mkC p_11.v p_11.s)).req), .string (((mkC p_11.v p_11.s)).key), .slice (p_11.s.ea) (p_11.v.ent.length) (p_11.s.ec), .slice (p_11.s.ma) (p_11.v.mrk.length) (p_11.s.mc), .slice (p_11.s.ca) (p_11.v.cl.length) (p_11.s.cc), .int .i64 (((mkC p_11.v p_11.s)).owner), .int .i64 (((mkC p_11.v p_11.s)).part), .int .i64 (((mkC p_11.v p_11.s)).n), .int .i64 ((((mkC p_11.v p_11.s)).ring).parts), .int .i64 ((((mkC p_11.v p_11.s)).ring).copies), .int .i64 ((((mkC p_11.v p_11.s)).ring).spots), .slice (p_11.s.ba) (p_11.v.mem.length) (p_11.s.bc), .slice (p_11.s.pa) (p_11.v.pe.length) (p_11.s.pc), .slice (p_11.s.sa) (p_11.v.su.length) (p_11.s.sc)] 57 := hb_4_
      clear hb_4_
      replace hb_27 := hb_27.keep K_57 (by simp only [one]; omega)
      replace hE_49 := hE_49.keepO K_57 (fun q_ hq_ eq_ => pr_53 (by simp only [one] at eq_; rw [← eq_]; exact hq_))
      replace K0 := K0.trans K_57 (fun x hlt hx => absurd hlt (by simp only [one] at hx; omega))
      replace hb_4 := hb_4'
      clear hb_4'
      refine RL.val (x_assignI rfl) ?_
      refine RL.nil ?_
      refine Run.retCT (x := .int .i64 (0)) (cs := #[.int .i64 (((mkC p_11.v p_11.s)).kind), .int .i64 (((mkC p_11.v p_11.s)).frm), .int .i64 (((mkC p_11.v p_11.s)).to), .int .i64 (((mkC p_11.v p_11.s)).req), .string (((mkC p_11.v p_11.s)).key), .slice (p_11.s.ea) (p_11.v.ent.length) (p_11.s.ec), .slice (p_11.s.ma) (p_11.v.mrk.length) (p_11.s.mc), .slice (p_11.s.ca) (p_11.v.cl.length) (p_11.s.cc), .int .i64 (((mkC p_11.v p_11.s)).owner), .int .i64 (((mkC p_11.v p_11.s)).part), .int .i64 (((mkC p_11.v p_11.s)).n), .int .i64 ((((mkC p_11.v p_11.s)).ring).parts), .int .i64 ((((mkC p_11.v p_11.s)).ring).copies), .int .i64 ((((mkC p_11.v p_11.s)).ring).spots), .slice (p_11.s.ba) (p_11.v.mem.length) (p_11.s.bc), .slice (p_11.s.pa) (p_11.v.pe.length) (p_11.s.pc), .slice (p_11.s.sa) (p_11.v.su.length) (p_11.s.sc)]) Tryz.func18 rfl ty57 rfl rfl hb_4.cl rfl ?_
      exact ⟨_, rfl, .inr (.inr ⟨j_10, p_11, hp_14, hi_15, by simpa using hc28, rfl, _, _, _, _, hE_49, (moved_of pg_55), K0⟩)⟩
  · replace hB := hB.ext K_13
    replace hL := hL.ext K_13
    replace hC := hC.ext K_13
    replace hU := hU.ext K_13
    replace hb_4 := hb_4.ext K_13
    replace K0 := K0.ext K_13
    refine RL.val (x_assignI rfl) ?_
    refine RL.nil ?_
    refine Run.seq ?_
    refine Run.seq ?_
    refine Run.region ?_
    refine RL.val (x_moveI rfl) ?_
    refine RL.val (litT (x_ltI rfl rfl) (by decide)) ?_
    refine RL.nil ?_
    refine Run.condT rfl ?_
    refine Run.seq ?_
    refine Run.region ?_
    refine RL.val (x_build (cells := #[.int .i64 (0), .int .i64 (0), .int .i64 (0), .int .i64 (0), .string (⟨#[]⟩), .slice (none) (0) (0), .slice (none) (0) (0), .slice (none) (0) (0), .int .i64 (0), .int .i64 (0), .int .i64 (0), .int .i64 (0), .int .i64 (0), .int .i64 (0), .slice (none) (0) (0), .slice (none) (0) (0), .slice (none) (0) (0)]) (by kernel_rfl)) ?_
    refine RL.st rfl <| St1.store (v := .agg #[.int .i64 (0), .int .i64 (0), .int .i64 (0), .int .i64 (0), .string (⟨#[]⟩), .slice (none) (0) (0), .slice (none) (0) (0), .slice (none) (0) (0), .int .i64 (0), .int .i64 (0), .int .i64 (0), .int .i64 (0), .int .i64 (0), .int .i64 (0), .slice (none) (0) (0), .slice (none) (0) (0), .slice (none) (0) (0)]) ty57 rfl rfl rfl (by simp [Value.cells, Value.oneCell']) hb_4 (by simp) ?_
    intro w_58 hb_4_ K_59
    have hb_4' : Blk w_58 b_1 [.int .i64 (0), .int .i64 (0), .int .i64 (0), .int .i64 (0), .string (⟨#[]⟩), .slice (none) (0) (0), .slice (none) (0) (0), .slice (none) (0) (0), .int .i64 (0), .int .i64 (0), .int .i64 (0), .int .i64 (0), .int .i64 (0), .int .i64 (0), .slice (none) (0) (0), .slice (none) (0) (0), .slice (none) (0) (0)] 57 := hb_4_
    clear hb_4_
    replace hB := hB.keep K_59 (by simp only [one]; omega)
    replace hL := hL.keepO K_59 (fun q_ hq_ eq_ => pr_7 (by simp only [one] at eq_; rw [← eq_]; exact hq_))
    replace hC := hC.keepO K_59 (fun q_ hq_ eq_ => pr_8 (by simp only [one] at eq_; rw [← eq_]; exact hq_))
    replace hU := hU.keepO K_59 (fun q_ hq_ eq_ => pr_9 (by simp only [one] at eq_; rw [← eq_]; exact hq_))
    replace K0 := K0.trans K_59 (fun x hlt hx => absurd hlt (by simp only [one] at hx; omega))
    replace hb_4 := hb_4'
    clear hb_4'
    refine RL.val (x_assignI rfl) ?_
    refine RL.nil ?_
    refine Run.retCT (x := .int .i64 (221)) (cs := #[.int .i64 (0), .int .i64 (0), .int .i64 (0), .int .i64 (0), .string (⟨#[]⟩), .slice (none) (0) (0), .slice (none) (0) (0), .slice (none) (0) (0), .int .i64 (0), .int .i64 (0), .int .i64 (0), .int .i64 (0), .int .i64 (0), .int .i64 (0), .slice (none) (0) (0), .slice (none) (0) (0), .slice (none) (0) (0)]) Tryz.func18 rfl ty57 rfl rfl hb_4.cl rfl ?_
    exact ⟨_, rfl, .inl ⟨hn_16, rfl, _, _, _, _, ⟨hB, hL, hC, hU, hn1, hn2, hn3, hn4, hn5, hn6, hok, hcl⟩, (moved_of (rS_elim (Or.inl rfl) (fun q_ h_ _ => Or.inr (Or.inl h_)) (fun q_ h_ _ => Or.inr (Or.inr (Or.inl h_))) (fun q_ h_ _ => Or.inr (Or.inr (Or.inr h_))))), K0⟩⟩

set_option maxRecDepth 100000 in
set_option maxHeartbeats 4000000 in
theorem forgetRO (r : Nat) (aL : Option Addr) (cL : Nat) (aC : Option Addr) (cC : Nat) (nodes id now : Int) (ks : List Pk) (cu : List CutR) (n : Int) (w : World) (hD : RefO w r aL cL aC cC nodes id now ks cu) :
    Calls Tryz.prog 30 #[.pointer (some ⟨r, 0, none⟩), .int .i64 (n)] w (Ret (fun v w' => v = .int .i64 ((ks.length : Int) - ((fkL n ks).length : Int)) ∧ ∃ a' c' d' e', RefO w' r a' c' d' e' nodes id now (fkL n ks) cu ∧ MovedS w (rS r aL aC cu) (rS r a' d' cu) ∧ Keeps (rS r aL aC cu) w w')) := by
  obtain ⟨hB, hL, hC, hU, hn1, hn2, hn3, hn4, hn5, hn6, hok, hcl⟩ := hD
  obtain ⟨hno1, hno2⟩ := hok.nodes
  obtain ⟨hnw1, hnw2⟩ := hok.now
  have hid0 := hok.id0
  have hl5 := hok.len
  rw [p_len] at hl5
  have hkl : (ks.map Pk.k).length = ks.length := List.length_map ..
  have hcul : (cu.map CutR.sh).length = cu.length := List.length_map ..
  refine calls_run (n := 64) Tryz.func30 rfl rfl rfl ?_
  refine Run.seq ?_
  refine Run.region ?_
  refine RL.val (x_assignI rfl) ?_
  refine RL.nil ?_
  refine Run.seq ?_
  refine Run.region ?_
  refine RL.val (x_assignSl rfl) ?_
  refine RL.nil ?_
  refine Run.seq ?_
  refine Run.seq ?_
  refine Run.region ?_
  refine RL.val (x_assignI rfl) ?_
  refine RL.nil ?_
  refine Run.block ?_
  refine Run.loop (ι := Nat) (fun i ρ' w' => ∃ af : Option Addr, ∃ cf : Nat, Holds ρ' [(0, .pointer (some ⟨r, 0, none⟩)), (1, .int .i64 (n)), (5, .slice (af) (((fkL n (ks.take i)).map Pk.k).length) (cf)), (6, .int .i64 (((i : Nat) : Int)))] ∧ Keeps (rS r aL aC cu) w w' ∧ (Blk w' r [.int .i64 (nodes), .slice (aL) ((ks.map Pk.k).length) (cL), .int .i64 (id), .slice (aC) ((cu.map CutR.sh).length) (cC), .int .i64 (now)] 39) ∧ (OwnSl w' 59 (aL) (cL) (ks.map Pk.k)) ∧ (OwnSl w' 75 (aC) (cC) (cu.map CutR.sh)) ∧ (CutsAt w' cu) ∧ (OwnSl w' 59 af cf ((fkL n (ks.take i)).map Pk.k)) ∧ (¬ own af r) ∧ (∀ q_, own af q_ → ¬ own aL q_) ∧ (∀ q_, own af q_ → ¬ own aC q_) ∧ (∀ q_, own af q_ → ¬ cutsS cu q_) ∧ (∀ q_, own af q_ → q_ < w.heap.size → (rS r aL aC cu) q_) ∧ (∀ q_, own af q_ → w.heap.size ≤ q_) ∧ (i ≤ ks.length)) (fun i => ks.length - i) 0 ?_ ?_
  · have ho_10 := OwnSl.nil (α := PacketC) w 59
    refine ⟨_, _, ⟨rfl, rfl, rfl, rfl, trivial⟩, (Keeps.refl _ w), hB, hL, hC, hU, ho_10, (own_none r), (fun q_ h1 _ => own_none q_ h1), (fun q_ h1 _ => own_none q_ h1), (fun q_ h1 _ => own_none q_ h1), (fun q_ h1 _ => absurd h1 (own_none q_)), (fun q_ h1 => absurd h1 (own_none q_)), ?_⟩
    · omega
  clear hB hL hC hU
  rintro i ρ_11 w_1 ⟨af, cf, hH_2, K0, hB, hL, hC, hU, ho_3, pr_4, pr_5, pr_6, pr_7, pr_8, pr_9, hi⟩ ih1
  obtain ⟨ρ₀, rfl⟩ := hH_2.ex
  clear hH_2
  refine Run.seq ?_
  refine Run.seq ?_
  refine Run.region ?_
  refine RL.val (x_moveI rfl) ?_
  refine RL.val (x_moveP rfl) ?_
  refine RL.val (x_nilCheck rfl) ?_
  refine RL.val (x_fld (o' := 1) Tryz.underlying39 rfl ty36 rfl rfl rfl) ?_
  refine RL.val (x_ld (v := .slice (aL) ((ks.map Pk.k).length) (cL)) ty36 rfl rfl (hB.cl.field (i := 1) rfl)) ?_
  refine RL.val (x_lenSl Tryz.underlying36 rfl) ?_
  refine RL.val (x_ltI rfl rfl) ?_
  refine RL.nil ?_
  refine Run.cond rfl (fun hc14 => ?_) (fun hc14 => ?_)
  · try simp only [br] at hc14
    refine Run.skip ?_
    refine Run.seq ?_
    refine Run.block ?_
    refine Run.seq ?_
    obtain ⟨x0, hx0⟩ : ∃ x, (ks.map Pk.k)[i]? = some x := ⟨_, List.getElem?_eq_getElem (by omega)⟩
    obtain ⟨p, hp, hxe_, hpp⟩ := pk_get hx0
    subst hxe_
    refine Run.region ?_
    refine RL.val (x_moveP rfl) ?_
    refine RL.val (x_nilCheck rfl) ?_
    refine RL.val (x_fld (o' := 1) Tryz.underlying39 rfl ty36 rfl rfl rfl) ?_
    refine RL.val (x_ld (v := .slice (aL) ((ks.map Pk.k).length) (cL)) ty36 rfl rfl (hB.cl.field (i := 1) rfl)) ?_
    refine RL.val (x_moveI rfl) ?_
    obtain ⟨b_12, o_13, x_16, hx_17, ha_14, hc_15⟩ := hL.sl.el (i := i) (by first | omega | (simp only [List.length_set]; omega))
    obtain rfl : (kC p.id p.v p.s) = x_16 := Option.some.inj (hx0.symm.trans hx_17)
    refine RL.val (x_idxN Tryz.underlying36 ty59 rfl rfl ha_14 (by first | omega | (simp only [List.length_set]; omega))) ?_
    refine RL.val (x_fld (o' := o_13 + i * 18 + 1) Tryz.underlying59 rfl ty57 rfl rfl rfl) ?_
    refine RL.val (x_fld (o' := o_13 + i * 18 + 1 + 1) Tryz.underlying57 rfl ty3 rfl rfl rfl) ?_
    refine RL.val (litI (c := p.v.frm) (x_ld ty3 rfl rfl (hc_15.field (i := 2) rfl)) rfl) ?_
    refine RL.val (x_moveI rfl) ?_
    refine RL.val (x_neI rfl rfl) ?_
    refine RL.val (x_moveB rfl) ?_
    refine RL.gval (wantedT rfl rfl rfl rfl) (fun hg => (x_moveP rfl)) ?_
    refine RL.gval (wantedT rfl rfl rfl rfl) (fun hg => (x_nilCheck (gvr hg))) ?_
    refine RL.gval (wantedT rfl rfl rfl rfl) (fun hg => (x_fld (o' := 1) Tryz.underlying39 rfl ty36 rfl (gvr hg) rfl)) ?_
    refine RL.gval (wantedT rfl rfl rfl rfl) (fun hg => (x_ld (v := .slice (aL) ((ks.map Pk.k).length) (cL)) ty36 (gvr hg) rfl (hB.cl.field (i := 1) rfl))) ?_
    refine RL.gval (wantedT rfl rfl rfl rfl) (fun hg => (x_moveI rfl)) ?_
    obtain ⟨b_18, o_19, x_22, hx_23, ha_20, hc_21⟩ := hL.sl.el (i := i) (by first | omega | (simp only [List.length_set]; omega))
    obtain rfl : (kC p.id p.v p.s) = x_22 := Option.some.inj (hx0.symm.trans hx_23)
    refine RL.gval (wantedT rfl rfl rfl rfl) (fun hg => (x_idxN Tryz.underlying36 ty59 (gvr hg) (gvr hg) ha_20 (by first | omega | (simp only [List.length_set]; omega)))) ?_
    refine RL.gval (wantedT rfl rfl rfl rfl) (fun hg => (x_fld (o' := o_19 + i * 18 + 1) Tryz.underlying59 rfl ty57 rfl (gvr hg) rfl)) ?_
    refine RL.gval (wantedT rfl rfl rfl rfl) (fun hg => (x_fld (o' := o_19 + i * 18 + 1 + 2) Tryz.underlying57 rfl ty3 rfl (gvr hg) rfl)) ?_
    refine RL.gval (wantedT rfl rfl rfl rfl) (fun hg => (litI (c := p.v.to) (x_ld ty3 (gvr hg) rfl (hc_21.field (i := 3) rfl)) rfl)) ?_
    refine RL.gval (wantedT rfl rfl rfl rfl) (fun hg => (x_moveI rfl)) ?_
    refine RL.gval (wantedT rfl rfl rfl rfl) (fun hg => (x_neI (gvr hg) (gvr hg))) ?_
    refine RL.val (x_and rfl rfl rfl) ?_
    refine RL.nil ?_
    refine Run.cond rfl (fun hc40 => ?_) (fun hc40 => ?_)
    · try simp only [br] at hc40
      refine Run.region ?_
      refine RL.val (x_moveSl rfl) ?_
      refine RL.val (x_moveP rfl) ?_
      refine RL.val (x_nilCheck rfl) ?_
      refine RL.val (x_fld (o' := 1) Tryz.underlying39 rfl ty36 rfl rfl rfl) ?_
      refine RL.val (x_ld (v := .slice (aL) ((ks.map Pk.k).length) (cL)) ty36 rfl rfl (hB.cl.field (i := 1) rfl)) ?_
      refine RL.val (x_moveI rfl) ?_
      obtain ⟨b_24, o_25, x_28, hx_29, ha_26, hc_27⟩ := hL.sl.el (i := i) (by first | omega | (simp only [List.length_set]; omega))
      obtain rfl : (kC p.id p.v p.s) = x_28 := Option.some.inj (hx0.symm.trans hx_29)
      refine RL.val (x_idxN Tryz.underlying36 ty59 rfl rfl ha_26 (by first | omega | (simp only [List.length_set]; omega))) ?_
      refine RL.val (x_ldV (v := .agg #[.int .i64 (((kC p.id p.v p.s)).id), .int .i64 ((((kC p.id p.v p.s)).msg).kind), .int .i64 ((((kC p.id p.v p.s)).msg).frm), .int .i64 ((((kC p.id p.v p.s)).msg).to), .int .i64 ((((kC p.id p.v p.s)).msg).req), .string ((((kC p.id p.v p.s)).msg).key), .slice (p.s.ea) (p.v.ent.length) (p.s.ec), .slice (p.s.ma) (p.v.mrk.length) (p.s.mc), .slice (p.s.ca) (p.v.cl.length) (p.s.cc), .int .i64 ((((kC p.id p.v p.s)).msg).owner), .int .i64 ((((kC p.id p.v p.s)).msg).part), .int .i64 ((((kC p.id p.v p.s)).msg).n), .int .i64 (((((kC p.id p.v p.s)).msg).ring).parts), .int .i64 (((((kC p.id p.v p.s)).msg).ring).copies), .int .i64 (((((kC p.id p.v p.s)).msg).ring).spots), .slice (p.s.ba) (p.v.mem.length) (p.s.bc), .slice (p.s.pa) (p.v.pe.length) (p.s.pc), .slice (p.s.sa) (p.v.su.length) (p.s.sc)]) (y := (kC p.id p.v p.s)) ty59 rfl hc_27 rfl) ?_
      refine RL.st rfl <| St1.buildSlice ([(kC p.id p.v p.s)] : List PacketC) Tryz.underlying36 ty59 rfl rfl (by first | decide | (simp [Enc.size])) ?_
      intro b_30 w_31 hl_34 ho_33 K_32
      have pr_35 : ¬ own (some ⟨b_30, 0, none⟩) r := notNew (ge_new hl_34) hB.lt
      have pr_36 : ∀ q_, own (some ⟨b_30, 0, none⟩) q_ → ¬ own aL q_ := apartNew (ge_new hl_34) hL.own_lt
      have pr_37 : ∀ q_, own (some ⟨b_30, 0, none⟩) q_ → ¬ own aC q_ := apartNew (ge_new hl_34) hC.own_lt
      have pr_38 : ∀ q_, own (some ⟨b_30, 0, none⟩) q_ → ¬ cutsS cu q_ := apartNew (ge_new hl_34) hU.own_lt
      have pr_39 : ∀ q_, own (some ⟨b_30, 0, none⟩) q_ → ¬ own af q_ := apartNew (ge_new hl_34) ho_3.own_lt
      have pg_40 : ∀ q_, own (some ⟨b_30, 0, none⟩) q_ → q_ < w.heap.size → (rS r aL aC cu) q_ := fun q_ h hlt => absurd (Nat.le_trans K0.size ((ge_new hl_34) q_ h)) (by omega)
      have pw_41 : ∀ q_, own (some ⟨b_30, 0, none⟩) q_ → w.heap.size ≤ q_ := fun q_ h => Nat.le_trans K0.size ((ge_new hl_34) q_ h)
      clear hl_34
      replace hB := hB.ext K_32
      replace hL := hL.ext K_32
      replace hC := hC.ext K_32
      replace hU := hU.ext K_32
      replace ho_3 := ho_3.ext K_32
      replace hc_27 := hc_27.ext K_32
      replace K0 := K0.ext K_32
      refine RL.st rfl <| St1.append (xs := (fkL n (ks.take i)).map Pk.k) (ys := ([(kC p.id p.v p.s)] : List PacketC)) Tryz.underlying36 ty59 rfl rfl rfl ho_3 ho_33.sl (by have h_ := fk_len (ks := ks.take i) (n := n); rw [List.length_take] at h_; simp only [lr, List.length_map]; omega) (by decide) ?_
      intro a_42 c_43 w_44 ho_45 K_46 hm_47 hrm_48
      have pr_49 : ¬ own a_42 r := hm_47.not pr_4 hB.lt
      have pr_50 : ∀ q_, own a_42 q_ → ¬ own aL q_ := hm_47.apart pr_5 hL.own_lt
      have pr_51 : ∀ q_, own a_42 q_ → ¬ own aC q_ := hm_47.apart pr_6 hC.own_lt
      have pr_52 : ∀ q_, own a_42 q_ → ¬ cutsS cu q_ := hm_47.apart pr_7 hU.own_lt
      have pr_53 : ∀ q_, own a_42 q_ → ¬ own (some ⟨b_30, 0, none⟩) q_ := hm_47.apart (fun q_ h1 h2 => pr_39 q_ h2 h1) ho_33.own_lt
      have pg_54 : ∀ q_, own a_42 q_ → q_ < w.heap.size → (rS r aL aC cu) q_ := hm_47.inS pr_8 K0.size
      have pw_55 : ∀ q_, own a_42 q_ → w.heap.size ≤ q_ := hm_47.ge pr_9 K0.size
      replace hB := hB.keep K_46 pr_4
      replace hL := hL.keepO K_46 (fun q_ h1 h2 => pr_5 q_ h2 h1)
      replace hC := hC.keepO K_46 (fun q_ h1 h2 => pr_6 q_ h2 h1)
      replace hU := hU.keepO K_46 (fun q_ h1 h2 => pr_7 q_ h2 h1)
      replace hc_27 := hc_27.keep K_46 (fun h => (fun q_ h1 h2 => pr_5 q_ h2 h1) _ ((own_sub _) _ ha_26) h)
      replace ho_33 := ho_33.keepO K_46 pr_39
      replace K0 := K0.trans K_46 (fun x hlt hx => pr_8 x hx hlt)
      clear hm_47
      clear hrm_48
      refine RL.val (x_assignSl rfl) ?_
      refine RL.nil ?_
      refine Run.inBlock ?_
      refine Run.region ?_
      refine RL.val (x_moveI rfl) ?_
      refine RL.val (litI (c := ((i + 1 : Nat) : Int)) (x_add rfl rfl (by omega) (by omega)) rfl) ?_
      refine RL.val (x_assignI rfl) ?_
      refine RL.nil ?_
      have e : (fkL n (ks.take (i + 1))).map Pk.k = ((fkL n (ks.take i)).map Pk.k) ++ ([(kC p.id p.v p.s)] : List PacketC) := by rw [fk_yes hp (by unfold fkB; simpa using hc40), List.map_append]; rfl
      rw [← e] at ho_45
      refine ih1 (i + 1) _ _ ?_ (by omega)
      rw [← e]
      refine ⟨_, _, ⟨rfl, rfl, rfl, rfl, trivial⟩, K0, hB, hL, hC, hU, ho_45, pr_49, pr_50, pr_51, pr_52, pg_54, pw_55, ?_⟩
      · omega
    · try simp only [br] at hc40
      refine Run.skip ?_
      refine Run.inBlock ?_
      refine Run.region ?_
      refine RL.val (x_moveI rfl) ?_
      refine RL.val (litI (c := ((i + 1 : Nat) : Int)) (x_add rfl rfl (by omega) (by omega)) rfl) ?_
      refine RL.val (x_assignI rfl) ?_
      refine RL.nil ?_
      have e : (fkL n (ks.take (i + 1))).map Pk.k = (fkL n (ks.take i)).map Pk.k := by rw [fk_no hp (by unfold fkB; cases h_ : (p.v.frm != n && p.v.to != n) with | false => rfl | true => (simp at h_ hc40; omega))]
      rw [← e] at ho_3
      refine ih1 (i + 1) _ _ ?_ (by omega)
      rw [← e]
      refine ⟨_, _, ⟨rfl, rfl, rfl, rfl, trivial⟩, K0, hB, hL, hC, hU, ho_3, pr_4, pr_5, pr_6, pr_7, pr_8, pr_9, ?_⟩
      · omega
  · try simp only [br] at hc14
    refine Run.exit rfl ?_
    refine Run.seq ?_
    rw [fk_all (n := n) (show ks.length ≤ i by omega)] at ho_3 ⊢
    have hfl := fk_len (ks := ks) (n := n)
    have hfk : ((fkL n ks).map Pk.k).length = (fkL n ks).length := List.length_map ..
    refine Run.region ?_
    refine RL.val (x_moveP rfl) ?_
    refine RL.val (x_nilCheck rfl) ?_
    refine RL.val (x_fld (o' := 1) Tryz.underlying39 rfl ty36 rfl rfl rfl) ?_
    refine RL.val (x_ld (v := .slice (aL) ((ks.map Pk.k).length) (cL)) ty36 rfl rfl (hB.cl.field (i := 1) rfl)) ?_
    refine RL.val (x_lenSl Tryz.underlying36 rfl) ?_
    refine RL.val (x_moveSl rfl) ?_
    refine RL.val (x_lenSl Tryz.underlying36 rfl) ?_
    refine RL.val (x_sub rfl rfl (by omega) (by omega)) ?_
    refine RL.val (x_assignI rfl) ?_
    refine RL.nil ?_
    refine Run.seq ?_
    refine Run.region ?_
    refine RL.val (x_moveP rfl) ?_
    refine RL.val (x_moveSl rfl) ?_
    refine RL.val (x_nilCheck rfl) ?_
    refine RL.val (x_fld (o' := 1) Tryz.underlying39 rfl ty36 rfl rfl rfl) ?_
    refine RL.st rfl <| St1.store (v := .slice (af) (((fkL n ks).map Pk.k).length) (cf)) ty36 rfl rfl rfl (by simp [Value.cells, Value.oneCell']) hB (by simp) ?_
    intro w_56 hB_ K_57
    have hB' : Blk w_56 r [.int .i64 (nodes), .slice (af) (((fkL n ks).map Pk.k).length) (cf), .int .i64 (id), .slice (aC) ((cu.map CutR.sh).length) (cC), .int .i64 (now)] 39 := hB_
    clear hB_
    replace hL := hL.keepO K_57 (fun q_ hq_ eq_ => hn1 (by simp only [one] at eq_; rw [← eq_]; exact hq_))
    replace hC := hC.keepO K_57 (fun q_ hq_ eq_ => hn2 (by simp only [one] at eq_; rw [← eq_]; exact hq_))
    replace hU := hU.keepO K_57 (fun q_ hq_ eq_ => hn4 (by simp only [one] at eq_; rw [← eq_]; exact hq_))
    replace ho_3 := ho_3.keepO K_57 (fun q_ hq_ eq_ => pr_4 (by simp only [one] at eq_; rw [← eq_]; exact hq_))
    replace K0 := K0.trans K_57 (fun x _ hx => by simp only [one] at hx; subst hx; exact (Or.inl rfl))
    replace hB := hB'
    clear hB'
    refine RL.nil ?_
    refine Run.seq ?_
    refine Run.region ?_
    refine RL.val (x_moveI rfl) ?_
    refine RL.val (x_assignI rfl) ?_
    refine RL.nil ?_
    refine Run.ret1 (v := .int .i64 ((((ks.map Pk.k).length : Nat) : Int) - ((((fkL n ks).map Pk.k).length : Nat) : Int))) Tryz.func30 rfl rfl ?_
    exact ⟨_, rfl, congrArg (Value.int .i64) (by omega), _, _, _, _, ⟨hB, ho_3, hC, hU, pr_4, hn2, (fun q_ h1 h2 => pr_6 q_ h2 h1), hn4, (fun q_ h1 h2 => pr_7 q_ h2 h1), hn6, (hok.sub (fk_sub.map _)), hcl⟩, (moved_of (rS_elim (Or.inl rfl) pr_8 (fun q_ h_ _ => Or.inr (Or.inr (Or.inl h_))) (fun q_ h_ _ => Or.inr (Or.inr (Or.inr h_))))), K0⟩

end Go.Proofs.YtdlaoncjiolckaaGreat
