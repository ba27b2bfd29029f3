/-
  Layer 22's reference: Linked, put, without, New, Cut, Mend, Pass.
-/
import Derived.Test.YtdlaoncjiolckaaGreatRows
import Derived.Test.YtdlaoncjiolckaaGreatRa
namespace Go.Proofs.YtdlaoncjiolckaaGreat
attribute [local irreducible] St1 RL RA RT RT1 Run

section
variable {w w' : World} {F G : Nat → Prop} {cu : List CutR} {ks : List Pk} {r : Nat} {aL aC a' d' : Option Addr} {cL cC N j : Nat} {nodes id now x y : Int}
theorem moved_of (h : ∀ q, G q → q < w.heap.size → F q) : MovedS w F G := fun q hq => (Nat.lt_or_ge q w.heap.size).imp (h q hq) (fun h => h)
theorem rS_elim (h1 : F r) (h2 : ∀ q, own a' q → q < N → F q) (h3 : ∀ q, own d' q → q < N → F q) (h4 : ∀ q, cutsS cu q → q < N → F q) : ∀ q, rS r a' d' cu q → q < N → F q := by
  rintro q (rfl | h | h | h) hl
  · exact h1
  · exact h2 q h hl
  · exact h3 q h hl
  · exact h4 q h hl
theorem linkR_no (h : (nodeB nodes x && nodeB nodes y) = false) (cs : List LinkC) : linkedB nodes cs x y = false := by unfold linkedB; rw [h]; rfl
theorem linkR_cut (h : lk x y ∈ cu.map CutR.l) : linkedB nodes (cu.map CutR.l) x y = false := by unfold linkedB; rw [decide_eq_true h]; simp
theorem linkR_yes (h : (nodeB nodes x && nodeB nodes y) = true) (hn : lk x y ∉ cu.map CutR.l) : linkedB nodes (cu.map CutR.l) x y = true := by unfold linkedB; rw [h, decide_eq_false hn]; rfl
theorem cu_mem {c : CutR} (hc : cu[j]? = some c) (hl : c.l = lk x y) : lk x y ∈ cu.map CutR.l := List.mem_map.2 ⟨c, List.mem_of_getElem? hc, hl⟩
theorem cuts_nil : ∀ q, ¬ cutsS [] q := fun _ ⟨_, h, _⟩ => absurd h (by simp)
theorem RefO.new (hb : Blk w r [.int .i64 nodes, .slice none 0 0, .int .i64 0, .slice none 0 0, .int .i64 0] 39) (hn : 1 ≤ nodes ∧ nodes ≤ 8) : RefO w r none 0 none 0 nodes 0 0 [] [] :=
  ⟨hb, OwnSl.nil _ _, OwnSl.nil _ _, CutsAt.nil _, own_none _, own_none _, fun q h => absurd h (own_none q), cuts_nil _, fun q h => absurd h (cuts_nil q), fun q h => absurd h (cuts_nil q), ⟨hn, Int.le_refl _, ⟨by decide, by decide⟩, List.Pairwise.nil, fun p h => absurd h (by simp), by simp⟩, by simp⟩
theorem CutsAt.snoc {T : TypeId} {a : Option Addr} {c : Nat} (h : CutsAt w cu) (hs : OwnSl w T a c [x, y]) : CutsAt w (cu ++ [(⟨x, y, ⟨a, 2, c⟩⟩ : CutR)]) := by
  refine ⟨fun z hz => ?_, fun q ⟨z, hz, hq⟩ => ?_⟩
  · rcases List.mem_append.1 hz with hz | hz
    · exact h.all z hz
    · simp only [List.mem_singleton] at hz; subst hz; exact ⟨rfl, hs.sl⟩
  · rcases List.mem_append.1 hz with hz | hz
    · exact h.lt q ⟨z, hz, hq⟩
    · simp only [List.mem_singleton] at hz; subst hz; exact hs.own_lt q hq
theorem cuts_case {c : CutR} : ∀ q, cutsS (cu ++ [c]) q → cutsS cu q ∨ own c.sh.a q := fun q ⟨z, hz, hq⟩ => by
  rcases List.mem_append.1 hz with hz | hz
  · exact .inl ⟨z, hz, hq⟩
  · simp only [List.mem_singleton] at hz; subst hz; exact .inr hq
theorem cutL_put {c : CutR} (ht : twoB nodes x y = true) (hn : lk x y ∉ cu.map CutR.l) (hc : c.l = lk x y) : (cu ++ [c]).map CutR.l = cutL nodes (cu.map CutR.l) x y ∧ cutE nodes (cu.map CutR.l) x y = 0 := by
  have e : cutE nodes (cu.map CutR.l) x y = 0 := by unfold cutE; rw [if_pos ht, if_neg hn]
  refine ⟨?_, e⟩
  unfold cutL
  rw [if_pos e, List.map_append, ← hc]; rfl
theorem cutL_no {E : Int} (e : cutE nodes (cu.map CutR.l) x y = E) (h : E ≠ 0) : cu.map CutR.l = cutL nodes (cu.map CutR.l) x y := by unfold cutL; rw [if_neg (by rw [e]; exact h)]
theorem mendL_no {E : Int} (e : mendE nodes (cu.map CutR.l) x y = E) (h : E ≠ 0) : cu.map CutR.l = mendL nodes (cu.map CutR.l) x y := by unfold mendL; rw [if_neg (by rw [e]; exact h)]
theorem cutE1 {cs : List LinkC} (ht : twoB nodes x y = false) : cutE nodes cs x y = 1 := by unfold cutE; rw [if_neg (by rw [ht]; decide)]
theorem cutE2 {cs : List LinkC} (ht : twoB nodes x y = true) (h : lk x y ∈ cs) : cutE nodes cs x y = 220 := by unfold cutE; rw [if_pos ht, if_pos h]
theorem mendE1 {cs : List LinkC} (ht : twoB nodes x y = false) : mendE nodes cs x y = 1 := by unfold mendE; rw [if_neg (by rw [ht]; decide)]
theorem mendE2 {cs : List LinkC} (ht : twoB nodes x y = true) (h : lk x y ∉ cs) : mendE nodes cs x y = 220 := by unfold mendE; rw [if_pos ht, if_neg h]
theorem erase_at {α : Type} [DecidableEq α] {l : α} : ∀ {xs : List α} {j : Nat}, xs[j]? = some l → (∀ i c, i < j → xs[i]? = some c → c ≠ l) → xs.erase l = xs.take j ++ xs.drop (j + 1)
  | [], _, h, _ => by simp at h
  | x :: xs, 0, h, _ => by simp at h; subst h; simp
  | x :: xs, j + 1, h, hn => by
    have hx : x ≠ l := hn 0 x (by omega) rfl
    rw [List.erase_cons_tail (by simpa using hx), erase_at (xs := xs) (j := j) (by simpa using h) (fun i c hi hc => hn (i + 1) c (by omega) (by simpa using hc))]
    simp
theorem mend_at {c : CutR} (ht : twoB nodes x y = true) (hc : cu[j]? = some c) (hl : c.l = lk x y) (hn : ∀ i c, i < j → cu[i]? = some c → c.l ≠ lk x y) : (cu.take j ++ cu.drop (j + 1)).map CutR.l = mendL nodes (cu.map CutR.l) x y ∧ mendE nodes (cu.map CutR.l) x y = 0 := by
  have e : mendE nodes (cu.map CutR.l) x y = 0 := by unfold mendE; rw [if_pos ht, if_pos (cu_mem hc hl)]
  refine ⟨?_, e⟩
  unfold mendL
  rw [if_pos e, List.map_append, List.map_take, List.map_drop]
  refine (erase_at (by rw [List.getElem?_map, hc]; exact congrArg some hl) fun i d hi hd => ?_).symm
  rw [List.getElem?_map, Option.map_eq_some_iff] at hd
  obtain ⟨z, hz, rfl⟩ := hd
  exact hn i z hi hz
theorem mid_mem {α : Type} {xs : List α} : ∀ c ∈ xs.take j ++ xs.drop (j + 1), c ∈ xs := fun c hc => (List.mem_append.1 hc).elim List.mem_of_mem_take List.mem_of_mem_drop
theorem mid_sub2 {α : Type} {xs : List α} : (xs.take j ++ xs.drop (j + 1)).Sublist xs := by
  conv => rhs; rw [← List.take_append_drop j xs]
  exact List.Sublist.append_left (List.drop_sublist_drop_left _ (by omega)) _
end
theorem passE1 {n now : Int} (h : n < 0 ∨ 1099511627776 - now < n) : passE now n = 1 ∧ passN now n = now := by
  have e : passE now n = 1 := by unfold passE; rw [if_pos h]
  exact ⟨e, by unfold passN; rw [e]; rfl⟩
theorem passE0 {n now : Int} (h : ¬ (n < 0 ∨ 1099511627776 - now < n)) : passE now n = 0 ∧ passN now n = now + n := by
  have e : passE now n = 0 := by unfold passE; rw [if_neg h]
  exact ⟨e, by unfold passN; rw [if_pos e]⟩

theorem en53 : Enters Tryz.prog 53 := enters_of Tryz.func53 rfl (by kernel_rfl)
theorem en54 : Enters Tryz.prog 54 := enters_of Tryz.func54 rfl (by kernel_rfl)

set_option maxRecDepth 100000 in
set_option maxHeartbeats 4000000 in
theorem linkedR (r : Nat) (aL : Option Addr) (cL : Nat) (aC : Option Addr) (cC : Nat) (nodes id now : Int) (ks : List Pk) (cu : List CutR) (x y : Int) (w : World) (hD : RefO w r aL cL aC cC nodes id now ks cu) :
    Calls Tryz.prog 33 #[.pointer (some ⟨r, 0, none⟩), .int .i64 (x), .int .i64 (y)] w (Ret (fun v w' => v = .bool (linkedB nodes (cu.map CutR.l) x y) ∧ Ext w w')) := by
  obtain ⟨hB, hL, hC, hU, hn1, hn2, hn3, hn4, hn5, hn6, hok, hcl⟩ := hD
  obtain ⟨hno1, hno2⟩ := hok.nodes
  obtain ⟨hnw1, hnw2⟩ := hok.now
  have hid0 := hok.id0
  have hl5 := hok.len
  rw [p_len] at hl5
  have hkl : (ks.map Pk.k).length = ks.length := List.length_map ..
  have hcul : (cu.map CutR.sh).length = cu.length := List.length_map ..
  refine calls_run (n := 22) Tryz.func33 rfl rfl rfl ?_
  refine Run.seq ?_
  refine Run.region ?_
  refine RL.val (x_assignB rfl) ?_
  refine RL.nil ?_
  refine Run.seq ?_
  by_cases h2 : (nodeB nodes x && nodeB nodes y) = true
  · refine Run.region ?_
    refine RL.val (x_moveP rfl) ?_
    refine RL.val (x_moveI rfl) ?_
    refine RL.st rfl <| St1.call (vals := [.pointer (some ⟨r, 0, none⟩), .int .i64 (x)]) en59 rfl (nodeR r aL cL aC cC nodes id now ks cu x _ (⟨hB, hL, hC, hU, hn1, hn2, hn3, hn4, hn5, hn6, hok, hcl⟩ : RefO _ r aL cL aC cC nodes id now ks cu)) ?_
    rintro _ w_1 ⟨rfl, K_2⟩
    replace hB := hB.ext K_2
    replace hL := hL.ext K_2
    replace hC := hC.ext K_2
    replace hU := hU.ext K_2
    have K0 := (K_2 : Ext w _)
    refine RL.val (x_moveB rfl) ?_
    refine RL.gval (wantedT rfl rfl rfl rfl) (fun hg => (x_moveP rfl)) ?_
    refine RL.gval (wantedT rfl rfl rfl rfl) (fun hg => (x_moveI rfl)) ?_
    refine RL.gcall (vals := [.pointer (some ⟨r, 0, none⟩), .int .i64 (y)]) (wantedT rfl rfl rfl rfl) en59 (fun hg => (mcons (gvr hg) (mcons (gvr hg) mnil))) (fun hg => (nodeR r aL cL aC cC nodes id now ks cu y _ (⟨hB, hL, hC, hU, hn1, hn2, hn3, hn4, hn5, hn6, hok, hcl⟩ : RefO _ r aL cL aC cC nodes id now ks cu))) ?_
    intro w_3 K_4
    replace hB := hB.ext K_4
    replace hL := hL.ext K_4
    replace hC := hC.ext K_4
    replace hU := hU.ext K_4
    replace K0 := K0.ext K_4
    refine RL.val (litT (x_and rfl rfl rfl) h2) ?_
    refine RL.val (x_moveB rfl) ?_
    refine RL.gst (wantedT1 rfl rfl rfl rfl) <| St1.val (x_moveP rfl) ?_
    refine RL.gst (wantedT1 rfl rfl rfl rfl) <| St1.val (x_moveI rfl) ?_
    refine RL.gst (wantedT1 rfl rfl rfl rfl) <| St1.val (x_moveI rfl) ?_
    refine RL.gst (wantedT1 rfl rfl rfl rfl) <| St1.call (vals := [.pointer (some ⟨r, 0, none⟩), .int .i64 (x), .int .i64 (y)]) en54 rfl (cutR r aL cL aC cC nodes id now ks cu x y _ (⟨hB, hL, hC, hU, hn1, hn2, hn3, hn4, hn5, hn6, hok, hcl⟩ : RefO _ r aL cL aC cC nodes id now ks cu)) ?_
    rintro _ w_7 (⟨j_5, c_6, hcu_9, hl_10, hn_11, rfl, K_8⟩ | ⟨hn_11, rfl, K_8⟩)
    · replace hB := hB.ext K_8
      replace hL := hL.ext K_8
      replace hC := hC.ext K_8
      replace hU := hU.ext K_8
      replace K0 := K0.ext K_8
      have hjl_j_5 := (List.getElem?_eq_some_iff.1 hcu_9).1
      refine RL.gst (wantedT1 rfl rfl rfl rfl) <| St1.val (litF (x_ltI rfl rfl) (by simp)) ?_
      refine RL.val (x_andT rfl rfl rfl) ?_
      refine RL.val (x_assignB rfl) ?_
      refine RL.nil ?_
      refine Run.ret1 (v := .bool (false)) Tryz.func33 rfl rfl ?_
      exact ⟨_, rfl, congrArg Value.bool (linkR_cut (cu_mem hcu_9 hl_10)).symm, K0⟩
    · replace hB := hB.ext K_8
      replace hL := hL.ext K_8
      replace hC := hC.ext K_8
      replace hU := hU.ext K_8
      replace K0 := K0.ext K_8
      refine RL.gst (wantedT1 rfl rfl rfl rfl) <| St1.val (litT (x_ltI rfl rfl) (by decide)) ?_
      refine RL.val (x_andT rfl rfl rfl) ?_
      refine RL.val (x_assignB rfl) ?_
      refine RL.nil ?_
      refine Run.ret1 (v := .bool (true)) Tryz.func33 rfl rfl ?_
      exact ⟨_, rfl, congrArg Value.bool (linkR_yes h2 hn_11).symm, K0⟩
  · refine Run.region ?_
    refine RL.val (x_moveP rfl) ?_
    refine RL.val (x_moveI rfl) ?_
    refine RL.st rfl <| St1.call (vals := [.pointer (some ⟨r, 0, none⟩), .int .i64 (x)]) en59 rfl (nodeR r aL cL aC cC nodes id now ks cu x _ (⟨hB, hL, hC, hU, hn1, hn2, hn3, hn4, hn5, hn6, hok, hcl⟩ : RefO _ r aL cL aC cC nodes id now ks cu)) ?_
    rintro _ w_12 ⟨rfl, K_13⟩
    replace hB := hB.ext K_13
    replace hL := hL.ext K_13
    replace hC := hC.ext K_13
    replace hU := hU.ext K_13
    have K0 := (K_13 : Ext w _)
    refine RL.val (x_moveB rfl) ?_
    refine RL.gval (wantedT rfl rfl rfl rfl) (fun hg => (x_moveP rfl)) ?_
    refine RL.gval (wantedT rfl rfl rfl rfl) (fun hg => (x_moveI rfl)) ?_
    refine RL.gcall (vals := [.pointer (some ⟨r, 0, none⟩), .int .i64 (y)]) (wantedT rfl rfl rfl rfl) en59 (fun hg => (mcons (gvr hg) (mcons (gvr hg) mnil))) (fun hg => (nodeR r aL cL aC cC nodes id now ks cu y _ (⟨hB, hL, hC, hU, hn1, hn2, hn3, hn4, hn5, hn6, hok, hcl⟩ : RefO _ r aL cL aC cC nodes id now ks cu))) ?_
    intro w_14 K_15
    replace hB := hB.ext K_15
    replace hL := hL.ext K_15
    replace hC := hC.ext K_15
    replace hU := hU.ext K_15
    replace K0 := K0.ext K_15
    refine RL.val (litF (x_and rfl rfl rfl) (by simpa using h2)) ?_
    refine RL.val (x_moveB rfl) ?_
    refine RL.guardF (wantedT0 rfl rfl rfl rfl) ?_
    refine RL.guardF (wantedT0 rfl rfl rfl rfl) ?_
    refine RL.guardF (wantedT0 rfl rfl rfl rfl) ?_
    refine RL.guardF (wantedT0 rfl rfl rfl rfl) ?_
    refine RL.guardF (wantedT0 rfl rfl rfl rfl) ?_
    refine RL.val (x_and (b := false) (e := false) rfl rfl rfl) ?_
    refine RL.val (x_assignB rfl) ?_
    refine RL.nil ?_
    refine Run.ret1 (v := .bool (false)) Tryz.func33 rfl rfl ?_
    exact ⟨_, rfl, congrArg Value.bool (linkR_no (by simpa using h2) _).symm, K0⟩

set_option maxRecDepth 100000 in
set_option maxHeartbeats 4000000 in
theorem putR (r : Nat) (aL : Option Addr) (cL : Nat) (aC : Option Addr) (cC : Nat) (nodes id now : Int) (ks : List Pk) (cu : List CutR) (v : MV) (s : Six) (w : World) (hD : RefO w r aL cL aC cC nodes id now ks cu) (hid : id ≤ 100000000) :
    Calls Tryz.prog 44 #[.pointer (some ⟨r, 0, none⟩), .agg #[.int .i64 (((mkC v s)).kind), .int .i64 (((mkC v s)).frm), .int .i64 (((mkC v s)).to), .int .i64 (((mkC v s)).req), .string (((mkC v s)).key), .slice (s.ea) (v.ent.length) (s.ec), .slice (s.ma) (v.mrk.length) (s.mc), .slice (s.ca) (v.cl.length) (s.cc), .int .i64 (((mkC v s)).owner), .int .i64 (((mkC v s)).part), .int .i64 (((mkC v s)).n), .int .i64 ((((mkC v s)).ring).parts), .int .i64 ((((mkC v s)).ring).copies), .int .i64 ((((mkC v s)).ring).spots), .slice (s.ba) (v.mem.length) (s.bc), .slice (s.pa) (v.pe.length) (s.pc), .slice (s.sa) (v.su.length) (s.sc)]] w (Ret (fun v' w' => (¬ (twoB nodes v.frm v.to = true ∧ ks.length < 512) ∧ v' = .bool false ∧ ∃ a' c' d' e', RefO w' r a' c' d' e' nodes id now ks cu ∧ MovedS w (rS r aL aC cu) (rS r a' d' cu) ∧ Keeps (rS r aL aC cu) w w') ∨ (twoB nodes v.frm v.to = true ∧ ks.length < 512 ∧ v' = .bool true ∧ ∃ a' c' d' e', RefO w' r a' c' d' e' nodes (id + 1) now (ks ++ [(⟨id + 1, v, s⟩ : Pk)]) cu ∧ MovedS w (rS r aL aC cu) (rS r a' d' cu) ∧ Keeps (rS r aL aC cu) w w'))) := by
  obtain ⟨hB, hL, hC, hU, hn1, hn2, hn3, hn4, hn5, hn6, hok, hcl⟩ := hD
  obtain ⟨hno1, hno2⟩ := hok.nodes
  obtain ⟨hnw1, hnw2⟩ := hok.now
  have hid0 := hok.id0
  have hl5 := hok.len
  rw [p_len] at hl5
  have hkl : (ks.map Pk.k).length = ks.length := List.length_map ..
  have hcul : (cu.map CutR.sh).length = cu.length := List.length_map ..
  refine calls_run (n := 43) Tryz.func44 rfl rfl rfl ?_
  refine Run.seq ?_
  refine Run.region ?_
  refine RL.st rfl <| St1.box (v := .agg #[.int .i64 (((mkC v s)).kind), .int .i64 (((mkC v s)).frm), .int .i64 (((mkC v s)).to), .int .i64 (((mkC v s)).req), .string (((mkC v s)).key), .slice (s.ea) (v.ent.length) (s.ec), .slice (s.ma) (v.mrk.length) (s.mc), .slice (s.ca) (v.cl.length) (s.cc), .int .i64 (((mkC v s)).owner), .int .i64 (((mkC v s)).part), .int .i64 (((mkC v s)).n), .int .i64 ((((mkC v s)).ring).parts), .int .i64 ((((mkC v s)).ring).copies), .int .i64 ((((mkC v s)).ring).spots), .slice (s.ba) (v.mem.length) (s.bc), .slice (s.pa) (v.pe.length) (s.pc), .slice (s.sa) (v.su.length) (s.sc)]) rfl ?_
  intro b_1 w_2 hl_5 hb_4 K_3
  replace hb_4 : Blk w_2 b_1 [.int .i64 (((mkC v s)).kind), .int .i64 (((mkC v s)).frm), .int .i64 (((mkC v s)).to), .int .i64 (((mkC v s)).req), .string (((mkC v s)).key), .slice (s.ea) (v.ent.length) (s.ec), .slice (s.ma) (v.mrk.length) (s.mc), .slice (s.ca) (v.cl.length) (s.cc), .int .i64 (((mkC v s)).owner), .int .i64 (((mkC v s)).part), .int .i64 (((mkC v s)).n), .int .i64 ((((mkC v s)).ring).parts), .int .i64 ((((mkC v s)).ring).copies), .int .i64 ((((mkC v s)).ring).spots), .slice (s.ba) (v.mem.length) (s.bc), .slice (s.pa) (v.pe.length) (s.pc), .slice (s.sa) (v.su.length) (s.sc)] 57 := hb_4
  have ne_6 : r < b_1 := Nat.lt_of_lt_of_le hB.lt hl_5
  have pr_7 : ¬ own aL b_1 := fun h => absurd (hL.own_lt _ h) (by omega)
  have pr_8 : ¬ own aC b_1 := fun h => absurd (hC.own_lt _ h) (by omega)
  have pr_9 : ¬ cutsS cu b_1 := fun h => absurd (hU.own_lt _ h) (by omega)
  have : w.heap.size ≤ b_1 := hl_5
  clear hl_5
  replace hB := hB.ext K_3
  replace hL := hL.ext K_3
  replace hC := hC.ext K_3
  replace hU := hU.ext K_3
  have K0 := (K_3 : Ext w _).to (S := (rS r aL aC cu))
  refine RL.val (x_assignB rfl) ?_
  refine RL.nil ?_
  refine Run.seq ?_
  refine Run.seq ?_
  refine Run.region ?_
  refine RL.val (x_moveP rfl) ?_
  refine RL.val (x_fld (o' := 1) Tryz.underlying57 rfl ty3 rfl rfl rfl) ?_
  refine RL.val (x_ld (v := .int .i64 (((mkC v s)).frm)) ty3 rfl rfl (hb_4.cl.field (i := 1) rfl)) ?_
  refine RL.val (x_fld (o' := 2) Tryz.underlying57 rfl ty3 rfl rfl rfl) ?_
  refine RL.val (x_ld (v := .int .i64 (((mkC v s)).to)) ty3 rfl rfl (hb_4.cl.field (i := 2) rfl)) ?_
  refine RL.st rfl <| St1.call (vals := [.pointer (some ⟨r, 0, none⟩), .int .i64 (((mkC v s)).frm), .int .i64 (((mkC v s)).to)]) en53 rfl (twoR r aL cL aC cC nodes id now ks cu (((mkC v s)).frm) (((mkC v s)).to) _ (⟨hB, hL, hC, hU, hn1, hn2, hn3, hn4, hn5, hn6, hok, hcl⟩ : RefO _ r aL cL aC cC nodes id now ks cu)) ?_
  rintro _ w_10 ⟨rfl, K_11⟩
  replace hB := hB.ext K_11
  replace hL := hL.ext K_11
  replace hC := hC.ext K_11
  replace hU := hU.ext K_11
  replace hb_4 := hb_4.ext K_11
  replace K0 := K0.ext K_11
  refine RL.val (x_not rfl) ?_
  refine RL.val (x_moveB rfl) ?_
  refine RL.gval (wantedF rfl rfl rfl rfl) (fun hg => (x_moveP rfl)) ?_
  refine RL.gval (wantedF rfl rfl rfl rfl) (fun hg => (x_nilCheck (gvr hg))) ?_
  refine RL.gval (wantedF rfl rfl rfl rfl) (fun hg => (x_fld (o' := 1) Tryz.underlying39 rfl ty36 rfl (gvr hg) rfl)) ?_
  refine RL.gval (wantedF rfl rfl rfl rfl) (fun hg => (x_ld (v := .slice (aL) ((ks.map Pk.k).length) (cL)) ty36 (gvr hg) rfl (hB.cl.field (i := 1) rfl))) ?_
  refine RL.gval (wantedF rfl rfl rfl rfl) (fun hg => (x_lenSl Tryz.underlying36 (gvr hg))) ?_
  refine RL.gval (wantedF rfl rfl rfl rfl) (fun hg => (x_geI (gvr hg) rfl)) ?_
  refine RL.val (x_or rfl rfl rfl) ?_
  refine RL.nil ?_
  refine Run.cond rfl (fun hc19 => ?_) (fun hc19 => ?_)
  · try simp only [br] at hc19
    refine Run.seq ?_
    refine Run.region ?_
    refine RL.val (x_assignB rfl) ?_
    refine RL.nil ?_
    refine Run.ret1 (v := .bool (false)) Tryz.func44 rfl rfl ?_
    exact ⟨_, rfl, .inl ⟨fun h_ => by rw [h_.1] at hc19; simp at hc19; omega, rfl, _, _, _, _, ⟨hB, hL, hC, hU, hn1, hn2, hn3, hn4, hn5, hn6, hok, hcl⟩, (moved_of (rS_elim (Or.inl rfl) (fun q_ h_ _ => Or.inr (Or.inl h_)) (fun q_ h_ _ => Or.inr (Or.inr (Or.inl h_))) (fun q_ h_ _ => Or.inr (Or.inr (Or.inr h_))))), K0⟩⟩
  · try simp only [br] at hc19
    refine Run.skip ?_
    refine Run.seq ?_
    refine Run.region ?_
    refine RL.val (x_moveP rfl) ?_
    refine RL.val (x_moveP rfl) ?_
    refine RL.val (x_nilCheck rfl) ?_
    refine RL.val (x_fld (o' := 2) Tryz.underlying39 rfl ty3 rfl rfl rfl) ?_
    refine RL.val (x_ld (v := .int .i64 (id)) ty3 rfl rfl (hB.cl.field (i := 2) rfl)) ?_
    refine RL.val (x_add rfl rfl (by omega) (by omega)) ?_
    refine RL.val (x_nilCheck rfl) ?_
    refine RL.val (x_fld (o' := 2) Tryz.underlying39 rfl ty3 rfl rfl rfl) ?_
    refine RL.st rfl <| St1.store (v := .int .i64 (id + 1)) ty3 rfl rfl rfl (by simp [Value.cells, Value.oneCell']) hB (by simp) ?_
    intro w_12 hB_ K_13
    have hB' : Blk w_12 r [.int .i64 (nodes), .slice (aL) ((ks.map Pk.k).length) (cL), .int .i64 (id + 1), .slice (aC) ((cu.map CutR.sh).length) (cC), .int .i64 (now)] 39 := hB_
    clear hB_
    replace hL := hL.keepO K_13 (fun q_ hq_ eq_ => hn1 (by simp only [one] at eq_; rw [← eq_]; exact hq_))
    replace hC := hC.keepO K_13 (fun q_ hq_ eq_ => hn2 (by simp only [one] at eq_; rw [← eq_]; exact hq_))
    replace hU := hU.keepO K_13 (fun q_ hq_ eq_ => hn4 (by simp only [one] at eq_; rw [← eq_]; exact hq_))
    replace hb_4 := hb_4.keep K_13 (by simp only [one]; omega)
    replace K0 := K0.trans K_13 (fun x _ hx => by simp only [one] at hx; subst hx; exact (Or.inl rfl))
    replace hB := hB'
    clear hB'
    refine RL.nil ?_
    refine Run.seq ?_
    refine Run.drawT [15] (m := 16) (by kernel_rfl) rfl ?_
    intro w_14 K_15
    replace hB := hB.ext K_15
    replace hL := hL.ext K_15
    replace hC := hC.ext K_15
    replace hU := hU.ext K_15
    replace hb_4 := hb_4.ext K_15
    replace K0 := K0.ext K_15
    refine ⟨fun w' => Blk w' r [.int .i64 (nodes), .slice (aL) ((ks.map Pk.k).length) (cL), .int .i64 (id + 1), .slice (aC) ((cu.map CutR.sh).length) (cC), .int .i64 (now)] 39 ∧ Blk w' b_1 [.int .i64 (((mkC v s)).kind), .int .i64 (((mkC v s)).frm), .int .i64 (((mkC v s)).to), .int .i64 (((mkC v s)).req), .string (((mkC v s)).key), .slice (s.ea) (v.ent.length) (s.ec), .slice (s.ma) (v.mrk.length) (s.mc), .slice (s.ca) (v.cl.length) (s.cc), .int .i64 (((mkC v s)).owner), .int .i64 (((mkC v s)).part), .int .i64 (((mkC v s)).n), .int .i64 ((((mkC v s)).ring).parts), .int .i64 ((((mkC v s)).ring).copies), .int .i64 ((((mkC v s)).ring).spots), .slice (s.ba) (v.mem.length) (s.bc), .slice (s.pa) (v.pe.length) (s.pc), .slice (s.sa) (v.su.length) (s.sc)] 57 ∧ True, ?_⟩
    refine RT.takeP (v := .pointer (some ⟨r, 0, none⟩)) 0 rfl (by kernel_rfl) (.inr ⟨hB, hb_4, trivial⟩) (fun _ => (x_moveP rfl)) ?_
    refine RT.takeP (v := .pointer (some ⟨r, 0, none⟩)) 1 rfl (by kernel_rfl) (.inr ⟨hB, hb_4, trivial⟩) (fun _ => (x_moveP rfl)) ?_
    refine RT.takeP (v := .pointer (some ⟨r, 0, none⟩)) 2 rfl (by kernel_rfl) (.inr ⟨hB, hb_4, trivial⟩) (fun _ => (x_nilCheck rfl)) ?_
    refine RT.takeP (v := .pointer (some ⟨r, 1, none⟩)) 3 rfl (by kernel_rfl) (.inr ⟨hB, hb_4, trivial⟩) (fun _ => (x_fld (o' := 1) Tryz.underlying39 rfl ty36 rfl rfl rfl)) ?_
    refine RT.take (v := .slice (aL) ((ks.map Pk.k).length) (cL)) 4 rfl (by kernel_rfl) ⟨hB, hb_4, trivial⟩ (by rintro _ ⟨hB, hb_4, -⟩; exact (x_ld (v := .slice (aL) ((ks.map Pk.k).length) (cL)) ty36 rfl rfl (hB.cl.field (i := 1) rfl))) ?_
    refine RT.takeP (v := .pointer (some ⟨r, 0, none⟩)) 5 rfl (by kernel_rfl) (.inr ⟨hB, hb_4, trivial⟩) (fun _ => (x_moveP rfl)) ?_
    refine RT.takeP (v := .pointer (some ⟨r, 0, none⟩)) 6 rfl (by kernel_rfl) (.inr ⟨hB, hb_4, trivial⟩) (fun _ => (x_nilCheck rfl)) ?_
    refine RT.takeP (v := .pointer (some ⟨r, 2, none⟩)) 7 rfl (by kernel_rfl) (.inr ⟨hB, hb_4, trivial⟩) (fun _ => (x_fld (o' := 2) Tryz.underlying39 rfl ty3 rfl rfl rfl)) ?_
    refine RT.take (v := .int .i64 (id + 1)) 8 rfl (by kernel_rfl) ⟨hB, hb_4, trivial⟩ (by rintro _ ⟨hB, hb_4, -⟩; exact (x_ld (v := .int .i64 (id + 1)) ty3 rfl rfl (hB.cl.field (i := 2) rfl))) ?_
    refine RT.take (v := .agg #[.int .i64 (((mkC v s)).kind), .int .i64 (((mkC v s)).frm), .int .i64 (((mkC v s)).to), .int .i64 (((mkC v s)).req), .string (((mkC v s)).key), .slice (s.ea) (v.ent.length) (s.ec), .slice (s.ma) (v.mrk.length) (s.mc), .slice (s.ca) (v.cl.length) (s.cc), .int .i64 (((mkC v s)).owner), .int .i64 (((mkC v s)).part), .int .i64 (((mkC v s)).n), .int .i64 ((((mkC v s)).ring).parts), .int .i64 ((((mkC v s)).ring).copies), .int .i64 ((((mkC v s)).ring).spots), .slice (s.ba) (v.mem.length) (s.bc), .slice (s.pa) (v.pe.length) (s.pc), .slice (s.sa) (v.su.length) (s.sc)]) 9 rfl (by kernel_rfl) ⟨hB, hb_4, trivial⟩ (by rintro _ ⟨hB, hb_4, -⟩; exact (x_lds (cs := #[.int .i64 (((mkC v s)).kind), .int .i64 (((mkC v s)).frm), .int .i64 (((mkC v s)).to), .int .i64 (((mkC v s)).req), .string (((mkC v s)).key), .slice (s.ea) (v.ent.length) (s.ec), .slice (s.ma) (v.mrk.length) (s.mc), .slice (s.ca) (v.cl.length) (s.cc), .int .i64 (((mkC v s)).owner), .int .i64 (((mkC v s)).part), .int .i64 (((mkC v s)).n), .int .i64 ((((mkC v s)).ring).parts), .int .i64 ((((mkC v s)).ring).copies), .int .i64 ((((mkC v s)).ring).spots), .slice (s.ba) (v.mem.length) (s.bc), .slice (s.pa) (v.pe.length) (s.pc), .slice (s.sa) (v.su.length) (s.sc)]) ty57 rfl rfl (hb_4.cl.drop 0 17))) ?_
    refine RT.takeP (v := .agg #[.int .i64 (id + 1), .int .i64 (((mkC v s)).kind), .int .i64 (((mkC v s)).frm), .int .i64 (((mkC v s)).to), .int .i64 (((mkC v s)).req), .string (((mkC v s)).key), .slice (s.ea) (v.ent.length) (s.ec), .slice (s.ma) (v.mrk.length) (s.mc), .slice (s.ca) (v.cl.length) (s.cc), .int .i64 (((mkC v s)).owner), .int .i64 (((mkC v s)).part), .int .i64 (((mkC v s)).n), .int .i64 ((((mkC v s)).ring).parts), .int .i64 ((((mkC v s)).ring).copies), .int .i64 ((((mkC v s)).ring).spots), .slice (s.ba) (v.mem.length) (s.bc), .slice (s.pa) (v.pe.length) (s.pc), .slice (s.sa) (v.su.length) (s.sc)]) 10 rfl (by kernel_rfl) (.inr ⟨hB, hb_4, trivial⟩) (fun _ => (x_build (cells := #[.int .i64 (id + 1), .int .i64 (((mkC v s)).kind), .int .i64 (((mkC v s)).frm), .int .i64 (((mkC v s)).to), .int .i64 (((mkC v s)).req), .string (((mkC v s)).key), .slice (s.ea) (v.ent.length) (s.ec), .slice (s.ma) (v.mrk.length) (s.mc), .slice (s.ca) (v.cl.length) (s.cc), .int .i64 (((mkC v s)).owner), .int .i64 (((mkC v s)).part), .int .i64 (((mkC v s)).n), .int .i64 ((((mkC v s)).ring).parts), .int .i64 ((((mkC v s)).ring).copies), .int .i64 ((((mkC v s)).ring).spots), .slice (s.ba) (v.mem.length) (s.bc), .slice (s.pa) (v.pe.length) (s.pc), .slice (s.sa) (v.su.length) (s.sc)]) (by kernel_rfl))) ?_
    refine RT.st 11 rfl (by kernel_rfl) rfl <| St1.buildSlice ([(⟨id + 1, (⟨((mkC v s)).kind, ((mkC v s)).frm, ((mkC v s)).to, ((mkC v s)).req, ((mkC v s)).key, (⟨⟨s.ea, v.ent.length, s.ec⟩, (⟨⟨s.ma, v.mrk.length, s.mc⟩, ⟨s.ca, v.cl.length, s.cc⟩⟩ : CtxC)⟩ : CartC), ((mkC v s)).owner, ((mkC v s)).part, ((mkC v s)).n, (⟨(((mkC v s)).ring).parts, (((mkC v s)).ring).copies, (((mkC v s)).ring).spots, ⟨s.ba, v.mem.length, s.bc⟩⟩ : RingC), ⟨s.pa, v.pe.length, s.pc⟩, ⟨s.sa, v.su.length, s.sc⟩⟩ : MsgC)⟩ : PacketC)] : List PacketC) Tryz.underlying36 ty59 rfl rfl (by first | decide | (simp [Enc.size])) ?_
    intro b_16 w_17 hl_20 ho_19 K_18
    have pr_21 : ¬ own (some ⟨b_16, 0, none⟩) r := notNew (ge_new hl_20) hB.lt
    have pr_22 : ∀ q_, own (some ⟨b_16, 0, none⟩) q_ → ¬ own aL q_ := apartNew (ge_new hl_20) hL.own_lt
    have pr_23 : ∀ q_, own (some ⟨b_16, 0, none⟩) q_ → ¬ own aC q_ := apartNew (ge_new hl_20) hC.own_lt
    have pr_24 : ∀ q_, own (some ⟨b_16, 0, none⟩) q_ → ¬ cutsS cu q_ := apartNew (ge_new hl_20) hU.own_lt
    have pr_25 : ¬ own (some ⟨b_16, 0, none⟩) b_1 := notNew (ge_new hl_20) hb_4.lt
    have pg_26 : ∀ q_, own (some ⟨b_16, 0, none⟩) q_ → q_ < w.heap.size → (rS r aL aC cu) q_ := fun q_ h hlt => absurd (Nat.le_trans K0.size ((ge_new hl_20) q_ h)) (by omega)
    have pw_27 : ∀ q_, own (some ⟨b_16, 0, none⟩) q_ → w.heap.size ≤ q_ := fun q_ h => Nat.le_trans K0.size ((ge_new hl_20) q_ h)
    clear hl_20
    replace hB := hB.ext K_18
    replace hL := hL.ext K_18
    replace hC := hC.ext K_18
    replace hU := hU.ext K_18
    replace hb_4 := hb_4.ext K_18
    replace K0 := K0.ext K_18
    refine ⟨.inr ⟨hB, hb_4, trivial⟩, ?_⟩
    refine RT.st 12 rfl (by kernel_rfl) rfl <| St1.append (xs := ks.map Pk.k) (ys := ([(⟨id + 1, (⟨((mkC v s)).kind, ((mkC v s)).frm, ((mkC v s)).to, ((mkC v s)).req, ((mkC v s)).key, (⟨⟨s.ea, v.ent.length, s.ec⟩, (⟨⟨s.ma, v.mrk.length, s.mc⟩, ⟨s.ca, v.cl.length, s.cc⟩⟩ : CtxC)⟩ : CartC), ((mkC v s)).owner, ((mkC v s)).part, ((mkC v s)).n, (⟨(((mkC v s)).ring).parts, (((mkC v s)).ring).copies, (((mkC v s)).ring).spots, ⟨s.ba, v.mem.length, s.bc⟩⟩ : RingC), ⟨s.pa, v.pe.length, s.pc⟩, ⟨s.sa, v.su.length, s.sc⟩⟩ : MsgC)⟩ : PacketC)] : List PacketC)) Tryz.underlying36 ty59 rfl rfl rfl hL ho_19.sl (by simp only [lr]; omega) (by decide) ?_
    intro a_28 c_29 w_30 ho_31 K_32 hm_33 hrm_34
    have pr_35 : ¬ own a_28 r := hm_33.not hn1 hB.lt
    have pr_36 : ∀ q_, own a_28 q_ → ¬ own aC q_ := hm_33.apart (fun q_ h1 h2 => hn3 q_ h2 h1) hC.own_lt
    have pr_37 : ∀ q_, own a_28 q_ → ¬ cutsS cu q_ := hm_33.apart (fun q_ h1 h2 => hn5 q_ h2 h1) hU.own_lt
    have pr_38 : ¬ own a_28 b_1 := hm_33.not pr_7 hb_4.lt
    have pr_39 : ∀ q_, own a_28 q_ → ¬ own (some ⟨b_16, 0, none⟩) q_ := hm_33.apart (fun q_ h1 h2 => pr_22 q_ h2 h1) ho_19.own_lt
    have pg_40 : ∀ q_, own a_28 q_ → q_ < w.heap.size → (rS r aL aC cu) q_ := hm_33.inS (fun q_ h_ _ => Or.inr (Or.inl h_)) K0.size
    replace hB := hB.keep K_32 hn1
    replace hC := hC.keepO K_32 hn3
    replace hU := hU.keepO K_32 hn5
    replace hb_4 := hb_4.keep K_32 pr_7
    replace ho_19 := ho_19.keepO K_32 pr_22
    replace K0 := K0.trans K_32 (fun x hlt hx => (fun q_ h_ _ => Or.inr (Or.inl h_)) x hx hlt)
    clear hm_33
    clear hrm_34
    refine ⟨.inr ⟨hB, hb_4, trivial⟩, ?_⟩
    refine RT.takeP (v := .pointer (some ⟨r, 0, none⟩)) 13 rfl (by kernel_rfl) (.inr ⟨hB, hb_4, trivial⟩) (fun _ => (x_nilCheck rfl)) ?_
    refine RT.takeP (v := .pointer (some ⟨r, 1, none⟩)) 14 rfl (by kernel_rfl) (.inr ⟨hB, hb_4, trivial⟩) (fun _ => (x_fld (o' := 1) Tryz.underlying39 rfl ty36 rfl rfl rfl)) ?_
    refine RT.st 15 rfl (by kernel_rfl) rfl <| St1.store (v := .slice (a_28) (((ks.map Pk.k) ++ ([(⟨id + 1, (⟨((mkC v s)).kind, ((mkC v s)).frm, ((mkC v s)).to, ((mkC v s)).req, ((mkC v s)).key, (⟨⟨s.ea, v.ent.length, s.ec⟩, (⟨⟨s.ma, v.mrk.length, s.mc⟩, ⟨s.ca, v.cl.length, s.cc⟩⟩ : CtxC)⟩ : CartC), ((mkC v s)).owner, ((mkC v s)).part, ((mkC v s)).n, (⟨(((mkC v s)).ring).parts, (((mkC v s)).ring).copies, (((mkC v s)).ring).spots, ⟨s.ba, v.mem.length, s.bc⟩⟩ : RingC), ⟨s.pa, v.pe.length, s.pc⟩, ⟨s.sa, v.su.length, s.sc⟩⟩ : MsgC)⟩ : PacketC)] : List PacketC)).length) (c_29)) ty36 rfl rfl rfl (by simp [Value.cells, Value.oneCell']) hB (by simp) ?_
    intro w_41 hB_ K_42
    have hB' : Blk w_41 r [.int .i64 (nodes), .slice (a_28) (((ks.map Pk.k) ++ ([(⟨id + 1, (⟨((mkC v s)).kind, ((mkC v s)).frm, ((mkC v s)).to, ((mkC v s)).req, ((mkC v s)).key, (⟨⟨s.ea, v.ent.length, s.ec⟩, (⟨⟨s.ma, v.mrk.length, s.mc⟩, ⟨s.ca, v.cl.length, s.cc⟩⟩ : CtxC)⟩ : CartC), ((mkC v s)).owner, ((mkC v s)).part, ((mkC v s)).n, (⟨(((mkC v s)).ring).parts, (((mkC v s)).ring).copies, (((mkC v s)).ring).spots, ⟨s.ba, v.mem.length, s.bc⟩⟩ : RingC), ⟨s.pa, v.pe.length, s.pc⟩, ⟨s.sa, v.su.length, s.sc⟩⟩ : MsgC)⟩ : PacketC)] : List PacketC)).length) (c_29), .int .i64 (id + 1), .slice (aC) ((cu.map CutR.sh).length) (cC), .int .i64 (now)] 39 := hB_
    clear hB_
    replace hC := hC.keepO K_42 (fun q_ hq_ eq_ => hn2 (by simp only [one] at eq_; rw [← eq_]; exact hq_))
    replace hU := hU.keepO K_42 (fun q_ hq_ eq_ => hn4 (by simp only [one] at eq_; rw [← eq_]; exact hq_))
    replace hb_4 := hb_4.keep K_42 (by simp only [one]; omega)
    replace ho_19 := ho_19.keepO K_42 (fun q_ hq_ eq_ => pr_21 (by simp only [one] at eq_; rw [← eq_]; exact hq_))
    replace ho_31 := ho_31.keepO K_42 (fun q_ hq_ eq_ => pr_35 (by simp only [one] at eq_; rw [← eq_]; exact hq_))
    replace K0 := K0.trans K_42 (fun x _ hx => by simp only [one] at hx; subst hx; exact (Or.inl rfl))
    replace hB := hB'
    clear hB'
    refine ⟨.inl (by kernel_rfl), ?_⟩
    refine RT.done (by kernel_rfl) ?_
    refine Run.seq ?_
    refine Run.region ?_
    refine RL.val (x_assignB rfl) ?_
    refine RL.nil ?_
    refine Run.ret1 (v := .bool (true)) Tryz.func44 rfl rfl ?_
    have htw : twoB nodes v.frm v.to = true := by first | simpa using hc19.1 | (simp at hc19; exact hc19.1)
    have hlt : ks.length < 512 := by omega
    have e : (ks ++ [(⟨id + 1, v, s⟩ : Pk)]).map Pk.k = (ks.map Pk.k) ++ ([(⟨id + 1, (⟨((mkC v s)).kind, ((mkC v s)).frm, ((mkC v s)).to, ((mkC v s)).req, ((mkC v s)).key, (⟨⟨s.ea, v.ent.length, s.ec⟩, (⟨⟨s.ma, v.mrk.length, s.mc⟩, ⟨s.ca, v.cl.length, s.cc⟩⟩ : CtxC)⟩ : CartC), ((mkC v s)).owner, ((mkC v s)).part, ((mkC v s)).n, (⟨(((mkC v s)).ring).parts, (((mkC v s)).ring).copies, (((mkC v s)).ring).spots, ⟨s.ba, v.mem.length, s.bc⟩⟩ : RingC), ⟨s.pa, v.pe.length, s.pc⟩, ⟨s.sa, v.su.length, s.sc⟩⟩ : MsgC)⟩ : PacketC)] : List PacketC) := by rw [List.map_append]; rfl
    rw [← e] at ho_31 hB
    exact ⟨_, rfl, .inr ⟨htw, hlt, rfl, _, _, _, _, ⟨hB, ho_31, hC, hU, pr_35, hn2, (fun q_ h1 h2 => pr_36 q_ h2 h1), hn4, (fun q_ h1 h2 => pr_37 q_ h2 h1), hn6, (hok.put hlt), hcl⟩, (moved_of (rS_elim (Or.inl rfl) pg_40 (fun q_ h_ _ => Or.inr (Or.inr (Or.inl h_))) (fun q_ h_ _ => Or.inr (Or.inr (Or.inr h_))))), K0⟩⟩

set_option maxRecDepth 100000 in
set_option maxHeartbeats 4000000 in
theorem withoutR (r : Nat) (aL : Option Addr) (cL : Nat) (aC : Option Addr) (cC : Nat) (nodes id now : Int) (ks : List Pk) (cu : List CutR) (j : Nat) (w : World) (hD : RefO w r aL cL aC cC nodes id now ks cu) (hj : j < ks.length) :
    Calls Tryz.prog 46 #[.pointer (some ⟨r, 0, none⟩), .int .i64 (((j : Nat) : Int))] w (Ret (fun v' w' => v' = .tuple #[] ∧ ∃ a' c' d' e', RefO w' r a' c' d' e' nodes id now (ks.take j ++ ks.drop (j + 1)) cu ∧ MovedS w (rS r aL aC cu) (rS r a' d' cu) ∧ Keeps (rS r aL aC cu) w w')) := by
  obtain ⟨hB, hL, hC, hU, hn1, hn2, hn3, hn4, hn5, hn6, hok, hcl⟩ := hD
  obtain ⟨hno1, hno2⟩ := hok.nodes
  obtain ⟨hnw1, hnw2⟩ := hok.now
  have hid0 := hok.id0
  have hl5 := hok.len
  rw [p_len] at hl5
  have hkl : (ks.map Pk.k).length = ks.length := List.length_map ..
  have hcul : (cu.map CutR.sh).length = cu.length := List.length_map ..
  have hcap := hL.le_cap
  refine calls_run (n := 24) Tryz.func46 rfl rfl rfl ?_
  refine Run.seq ?_
  refine Run.region ?_
  refine RL.val (x_moveP rfl) ?_
  refine RL.val (x_nilCheck rfl) ?_
  refine RL.val (x_fld (o' := 1) Tryz.underlying39 rfl ty36 rfl rfl rfl) ?_
  refine RL.val (x_ld (v := .slice (aL) ((ks.map Pk.k).length) (cL)) ty36 rfl rfl (hB.cl.field (i := 1) rfl)) ?_
  refine RL.val (x_moveI rfl) ?_
  refine RL.val (litSl (m' := ((ks.map Pk.k).take j).length) (x_sliceTo Tryz.underlying36 ty59 rfl rfl (by omega)) (by rw [List.length_take]; omega)) ?_
  have ho_1 := OwnSl.nil (α := PacketC) w 59
  refine RL.st rfl <| St1.append (xs := ([] : List PacketC)) (ys := (ks.map Pk.k).take j) Tryz.underlying36 ty59 rfl rfl rfl ho_1 (hL.sl.take j) (by simp only [lr, List.length_take]; omega) (by decide) ?_
  intro a_2 c_3 w_4 ho_5 K_6 hm_7 hrm_8
  have pr_9 : ¬ own a_2 r := hm_7.not (own_none r) hB.lt
  have pr_10 : ∀ q_, own a_2 q_ → ¬ own aL q_ := hm_7.apart (fun q_ h1 _ => own_none q_ h1) hL.own_lt
  have pr_11 : ∀ q_, own a_2 q_ → ¬ own aC q_ := hm_7.apart (fun q_ h1 _ => own_none q_ h1) hC.own_lt
  have pr_12 : ∀ q_, own a_2 q_ → ¬ cutsS cu q_ := hm_7.apart (fun q_ h1 _ => own_none q_ h1) hU.own_lt
  have pg_13 : ∀ q_, own a_2 q_ → q_ < w.heap.size → (rS r aL aC cu) q_ := hm_7.inS (fun q_ h1 _ => absurd h1 (own_none q_)) (Nat.le_refl _)
  have pw_14 : ∀ q_, own a_2 q_ → w.heap.size ≤ q_ := hm_7.ge (fun q_ h1 => absurd h1 (own_none q_)) (Nat.le_refl _)
  replace hB := hB.keep K_6 (own_none r)
  replace hL := hL.keepO K_6 (fun q_ h1 h2 => (fun q_ h1 _ => own_none q_ h1) q_ h2 h1)
  replace hC := hC.keepO K_6 (fun q_ h1 h2 => (fun q_ h1 _ => own_none q_ h1) q_ h2 h1)
  replace hU := hU.keepO K_6 (fun q_ h1 h2 => (fun q_ h1 _ => own_none q_ h1) q_ h2 h1)
  have K0 := (Keeps.refl (rS r aL aC cu) w).trans K_6 (fun x hlt hx => (fun q_ h1 _ => absurd h1 (own_none q_)) x hx hlt)
  clear hm_7
  clear hrm_8
  refine RL.val (x_assignSl rfl) ?_
  refine RL.nil ?_
  refine Run.region ?_
  refine RL.val (x_moveP rfl) ?_
  refine RL.val (x_moveSl rfl) ?_
  refine RL.val (x_moveP rfl) ?_
  refine RL.val (x_nilCheck rfl) ?_
  refine RL.val (x_fld (o' := 1) Tryz.underlying39 rfl ty36 rfl rfl rfl) ?_
  refine RL.val (x_ld (v := .slice (aL) ((ks.map Pk.k).length) (cL)) ty36 rfl rfl (hB.cl.field (i := 1) rfl)) ?_
  refine RL.val (x_moveI rfl) ?_
  refine RL.val (litI (c := ((j + 1 : Nat) : Int)) (x_add rfl rfl (by omega) (by omega)) rfl) ?_
  refine RL.val (x_sliceFrom (xs := ks.map Pk.k) Tryz.underlying36 ty59 rfl rfl (by omega)) ?_
  refine RL.st rfl <| St1.append (xs := ([] : List PacketC) ++ (ks.map Pk.k).take j) (ys := (ks.map Pk.k).drop (j + 1)) Tryz.underlying36 ty59 rfl rfl rfl ho_5 (hL.sl.from (j + 1) cL (hL.le_cap)) (by simp only [lr, List.length_take, List.length_drop]; omega) (by decide) ?_
  intro a_15 c_16 w_17 ho_18 K_19 hm_20 hrm_21
  have pr_22 : ¬ own a_15 r := hm_20.not pr_9 hB.lt
  have pr_23 : ∀ q_, own a_15 q_ → ¬ own aL q_ := hm_20.apart pr_10 hL.own_lt
  have pr_24 : ∀ q_, own a_15 q_ → ¬ own aC q_ := hm_20.apart pr_11 hC.own_lt
  have pr_25 : ∀ q_, own a_15 q_ → ¬ cutsS cu q_ := hm_20.apart pr_12 hU.own_lt
  have pg_26 : ∀ q_, own a_15 q_ → q_ < w.heap.size → (rS r aL aC cu) q_ := hm_20.inS pg_13 K0.size
  have pw_27 : ∀ q_, own a_15 q_ → w.heap.size ≤ q_ := hm_20.ge pw_14 K0.size
  replace hB := hB.keep K_19 pr_9
  replace hL := hL.keepO K_19 (fun q_ h1 h2 => pr_10 q_ h2 h1)
  replace hC := hC.keepO K_19 (fun q_ h1 h2 => pr_11 q_ h2 h1)
  replace hU := hU.keepO K_19 (fun q_ h1 h2 => pr_12 q_ h2 h1)
  replace K0 := K0.trans K_19 (fun x hlt hx => pg_13 x hx hlt)
  clear hm_20
  clear hrm_21
  refine RL.val (x_nilCheck rfl) ?_
  refine RL.val (x_fld (o' := 1) Tryz.underlying39 rfl ty36 rfl rfl rfl) ?_
  refine RL.st rfl <| St1.store (v := .slice (a_15) (((([] : List PacketC) ++ (ks.map Pk.k).take j) ++ (ks.map Pk.k).drop (j + 1)).length) (c_16)) ty36 rfl rfl rfl (by simp [Value.cells, Value.oneCell']) hB (by simp) ?_
  intro w_28 hB_ K_29
  have hB' : Blk w_28 r [.int .i64 (nodes), .slice (a_15) (((([] : List PacketC) ++ (ks.map Pk.k).take j) ++ (ks.map Pk.k).drop (j + 1)).length) (c_16), .int .i64 (id), .slice (aC) ((cu.map CutR.sh).length) (cC), .int .i64 (now)] 39 := hB_
  clear hB_
  replace hL := hL.keepO K_29 (fun q_ hq_ eq_ => hn1 (by simp only [one] at eq_; rw [← eq_]; exact hq_))
  replace hC := hC.keepO K_29 (fun q_ hq_ eq_ => hn2 (by simp only [one] at eq_; rw [← eq_]; exact hq_))
  replace hU := hU.keepO K_29 (fun q_ hq_ eq_ => hn4 (by simp only [one] at eq_; rw [← eq_]; exact hq_))
  replace ho_18 := ho_18.keepO K_29 (fun q_ hq_ eq_ => pr_22 (by simp only [one] at eq_; rw [← eq_]; exact hq_))
  replace K0 := K0.trans K_29 (fun x _ hx => by simp only [one] at hx; subst hx; exact (Or.inl rfl))
  replace hB := hB'
  clear hB'
  refine RL.nil ?_
  refine Run.fin0 Tryz.func46 rfl ?_
  have e : (ks.take j ++ ks.drop (j + 1)).map Pk.k = (([] : List PacketC) ++ (ks.map Pk.k).take j) ++ (ks.map Pk.k).drop (j + 1) := by rw [List.nil_append, List.map_append, List.map_take, List.map_drop]
  rw [← e] at ho_18 hB
  exact ⟨_, rfl, rfl, _, _, _, _, ⟨hB, ho_18, hC, hU, pr_22, hn2, (fun q_ h1 h2 => pr_24 q_ h2 h1), hn4, (fun q_ h1 h2 => pr_25 q_ h2 h1), hn6, (by rw [List.map_append, List.map_take, List.map_drop]; exact hok.sub mid_sub2), hcl⟩, (moved_of (rS_elim (Or.inl rfl) pg_26 (fun q_ h_ _ => Or.inr (Or.inr (Or.inl h_))) (fun q_ h_ _ => Or.inr (Or.inr (Or.inr h_))))), K0⟩

set_option maxRecDepth 100000 in
set_option maxHeartbeats 4000000 in
theorem newR (nodes : Int) (w : World) :
    Calls Tryz.prog 5 #[.int .i64 (nodes)] w (Ret (fun v w' => (¬ (1 ≤ nodes ∧ nodes ≤ 8) ∧ v = .tuple #[.pointer none, .int .i64 1] ∧ Ext w w') ∨ ((1 ≤ nodes ∧ nodes ≤ 8) ∧ ∃ r, v = .tuple #[.pointer (some ⟨r, 0, none⟩), .int .i64 0] ∧ RefO w' r none 0 none 0 nodes 0 0 [] [] ∧ w.heap.size ≤ r ∧ Ext w w'))) := by
  refine calls_run (n := 13) Tryz.func5 rfl rfl rfl ?_
  refine Run.seq ?_
  refine Run.region ?_
  refine RL.val (x_assignP rfl) ?_
  refine RL.val (x_assignI rfl) ?_
  refine RL.nil ?_
  refine Run.seq ?_
  refine Run.seq ?_
  refine Run.region ?_
  refine RL.val (x_moveI rfl) ?_
  refine RL.val (x_ltI rfl rfl) ?_
  refine RL.val (x_moveB rfl) ?_
  refine RL.gval (wantedF rfl rfl rfl rfl) (fun hg => (x_moveI rfl)) ?_
  refine RL.gval (wantedF rfl rfl rfl rfl) (fun hg => (x_gtI (gvr hg) rfl)) ?_
  refine RL.val (x_or rfl rfl rfl) ?_
  refine RL.nil ?_
  refine Run.cond rfl (fun hc9 => ?_) (fun hc9 => ?_)
  · try simp only [br] at hc9
    refine Run.seq ?_
    refine Run.region ?_
    refine RL.val (x_assignP rfl) ?_
    refine RL.val (x_assignI rfl) ?_
    refine RL.nil ?_
    refine Run.ret2 (v := .pointer none) (x := .int .i64 (1)) Tryz.func5 rfl rfl rfl ?_
    exact ⟨_, rfl, .inl ⟨by omega, rfl, Keeps.refl _ w⟩⟩
  · try simp only [br] at hc9
    refine Run.skip ?_
    refine Run.seq ?_
    refine Run.region ?_
    refine RL.val (x_moveI rfl) ?_
    refine RL.val (x_build (cells := #[.int .i64 (nodes), .slice (none) (0) (0), .int .i64 (0), .slice (none) (0) (0), .int .i64 (0)]) (by kernel_rfl)) ?_
    refine RL.st rfl <| St1.box (v := .agg #[.int .i64 (nodes), .slice (none) (0) (0), .int .i64 (0), .slice (none) (0) (0), .int .i64 (0)]) rfl ?_
    intro b_1 w_2 hl_5 hb_4 K_3
    replace hb_4 : Blk w_2 b_1 [.int .i64 (nodes), .slice (none) (0) (0), .int .i64 (0), .slice (none) (0) (0), .int .i64 (0)] 39 := hb_4
    have : w.heap.size ≤ b_1 := hl_5
    clear hl_5
    have K0 := (K_3 : Ext w _)
    refine RL.val (x_assignP rfl) ?_
    refine RL.val (x_assignI rfl) ?_
    refine RL.nil ?_
    refine Run.ret2 (v := .pointer (some ⟨b_1, 0, none⟩)) (x := .int .i64 (0)) Tryz.func5 rfl rfl rfl ?_
    exact ⟨_, rfl, .inr ⟨by omega, b_1, rfl, RefO.new hb_4 (by omega), by omega, K0⟩⟩

set_option maxRecDepth 100000 in
set_option maxHeartbeats 4000000 in
theorem cutRW (r : Nat) (aL : Option Addr) (cL : Nat) (aC : Option Addr) (cC : Nat) (nodes id now : Int) (ks : List Pk) (cu : List CutR) (x y : Int) (w : World) (hD : RefO w r aL cL aC cC nodes id now ks cu) (hcl2 : cu.length ≤ 100000) :
    Calls Tryz.prog 25 #[.pointer (some ⟨r, 0, none⟩), .int .i64 (x), .int .i64 (y)] w (Ret (fun v w' => ∃ cv, v = .int .i64 (cutE nodes (cu.map CutR.l) x y) ∧ cv.map CutR.l = cutL nodes (cu.map CutR.l) x y ∧ cv.length ≤ cu.length + 1 ∧ ∃ a' c' d' e', RefO w' r a' c' d' e' nodes id now ks cv ∧ MovedS w (rS r aL aC cu) (rS r a' d' cv) ∧ Keeps (rS r aL aC cu) w w')) := by
  obtain ⟨hB, hL, hC, hU, hn1, hn2, hn3, hn4, hn5, hn6, hok, hcl⟩ := hD
  obtain ⟨hno1, hno2⟩ := hok.nodes
  obtain ⟨hnw1, hnw2⟩ := hok.now
  have hid0 := hok.id0
  have hl5 := hok.len
  rw [p_len] at hl5
  have hkl : (ks.map Pk.k).length = ks.length := List.length_map ..
  have hcul : (cu.map CutR.sh).length = cu.length := List.length_map ..
  refine calls_run (n := 29) Tryz.func25 rfl rfl rfl ?_
  refine Run.seq ?_
  refine Run.region ?_
  refine RL.val (x_assignI rfl) ?_
  refine RL.nil ?_
  refine Run.seq ?_
  refine Run.seq ?_
  refine Run.region ?_
  refine RL.val (x_moveP rfl) ?_
  refine RL.val (x_moveI rfl) ?_
  refine RL.val (x_moveI rfl) ?_
  refine RL.st rfl <| St1.call (vals := [.pointer (some ⟨r, 0, none⟩), .int .i64 (x), .int .i64 (y)]) en53 rfl (twoR r aL cL aC cC nodes id now ks cu x y _ (⟨hB, hL, hC, hU, hn1, hn2, hn3, hn4, hn5, hn6, hok, hcl⟩ : RefO _ r aL cL aC cC nodes id now ks cu)) ?_
  rintro _ w_1 ⟨rfl, K_2⟩
  replace hB := hB.ext K_2
  replace hL := hL.ext K_2
  replace hC := hC.ext K_2
  replace hU := hU.ext K_2
  have K0 := (K_2 : Ext w _).to (S := (rS r aL aC cu))
  refine RL.val (x_not rfl) ?_
  refine RL.nil ?_
  refine Run.cond rfl (fun hc11 => ?_) (fun hc11 => ?_)
  · try simp only [br] at hc11
    refine Run.seq ?_
    refine Run.region ?_
    refine RL.val (x_assignI rfl) ?_
    refine RL.nil ?_
    refine Run.ret1 (v := .int .i64 (1)) Tryz.func25 rfl rfl ?_
    have e0 := cutE1 (cs := cu.map CutR.l) (by simpa using hc11)
    exact ⟨_, rfl, cu, by rw [e0], cutL_no e0 (by decide), by omega, _, _, _, _, ⟨hB, hL, hC, hU, hn1, hn2, hn3, hn4, hn5, hn6, hok, hcl⟩, (moved_of (rS_elim (Or.inl rfl) (fun q_ h_ _ => Or.inr (Or.inl h_)) (fun q_ h_ _ => Or.inr (Or.inr (Or.inl h_))) (fun q_ h_ _ => Or.inr (Or.inr (Or.inr h_))))), K0⟩
  · try simp only [br] at hc11
    refine Run.skip ?_
    refine Run.seq ?_
    refine Run.seq ?_
    refine Run.region ?_
    refine RL.val (x_moveP rfl) ?_
    refine RL.val (x_moveI rfl) ?_
    refine RL.val (x_moveI rfl) ?_
    refine RL.st rfl <| St1.call (vals := [.pointer (some ⟨r, 0, none⟩), .int .i64 (x), .int .i64 (y)]) en54 rfl (cutR r aL cL aC cC nodes id now ks cu x y _ (⟨hB, hL, hC, hU, hn1, hn2, hn3, hn4, hn5, hn6, hok, hcl⟩ : RefO _ r aL cL aC cC nodes id now ks cu)) ?_
    rintro _ w_5 (⟨j_3, c_4, hcu_7, hl_8, hn_9, rfl, K_6⟩ | ⟨hn_9, rfl, K_6⟩)
    · replace hB := hB.ext K_6
      replace hL := hL.ext K_6
      replace hC := hC.ext K_6
      replace hU := hU.ext K_6
      replace K0 := K0.ext K_6
      have hjl_j_3 := (List.getElem?_eq_some_iff.1 hcu_7).1
      refine RL.val (litT (x_geI rfl rfl) (by simp)) ?_
      refine RL.nil ?_
      refine Run.condT rfl ?_
      refine Run.seq ?_
      refine Run.region ?_
      refine RL.val (x_assignI rfl) ?_
      refine RL.nil ?_
      refine Run.ret1 (v := .int .i64 (220)) Tryz.func25 rfl rfl ?_
      have e0 := cutE2 (cs := cu.map CutR.l) (by simpa using hc11) (cu_mem hcu_7 hl_8)
      exact ⟨_, rfl, cu, by rw [e0], cutL_no e0 (by decide), by omega, _, _, _, _, ⟨hB, hL, hC, hU, hn1, hn2, hn3, hn4, hn5, hn6, hok, hcl⟩, (moved_of (rS_elim (Or.inl rfl) (fun q_ h_ _ => Or.inr (Or.inl h_)) (fun q_ h_ _ => Or.inr (Or.inr (Or.inl h_))) (fun q_ h_ _ => Or.inr (Or.inr (Or.inr h_))))), K0⟩
    · replace hB := hB.ext K_6
      replace hL := hL.ext K_6
      replace hC := hC.ext K_6
      replace hU := hU.ext K_6
      replace K0 := K0.ext K_6
      refine RL.val (litF (x_geI rfl rfl) (by decide)) ?_
      refine RL.nil ?_
      refine Run.condF rfl ?_
      refine Run.skip ?_
      refine Run.seq ?_
      refine Run.region ?_
      refine RL.val (x_moveP rfl) ?_
      refine RL.val (x_moveP rfl) ?_
      refine RL.val (x_nilCheck rfl) ?_
      refine RL.val (x_fld (o' := 3) Tryz.underlying39 rfl ty37 rfl rfl rfl) ?_
      refine RL.val (x_ld (v := .slice (aC) ((cu.map CutR.sh).length) (cC)) ty37 rfl rfl (hB.cl.field (i := 3) rfl)) ?_
      refine RL.val (x_moveI rfl) ?_
      refine RL.val (x_moveI rfl) ?_
      refine RL.st rfl <| St1.buildSlice ([x, y] : List Int) Tryz.underlying75 ty3 rfl rfl (by first | decide | (simp [Enc.size])) ?_
      intro b_10 w_11 hl_14 ho_13 K_12
      have pr_15 : ¬ own (some ⟨b_10, 0, none⟩) r := notNew (ge_new hl_14) hB.lt
      have pr_16 : ∀ q_, own (some ⟨b_10, 0, none⟩) q_ → ¬ own aL q_ := apartNew (ge_new hl_14) hL.own_lt
      have pr_17 : ∀ q_, own (some ⟨b_10, 0, none⟩) q_ → ¬ own aC q_ := apartNew (ge_new hl_14) hC.own_lt
      have pr_18 : ∀ q_, own (some ⟨b_10, 0, none⟩) q_ → ¬ cutsS cu q_ := apartNew (ge_new hl_14) hU.own_lt
      have pg_19 : ∀ q_, own (some ⟨b_10, 0, none⟩) q_ → q_ < w.heap.size → (rS r aL aC cu) q_ := fun q_ h hlt => absurd (Nat.le_trans K0.size ((ge_new hl_14) q_ h)) (by omega)
      have pw_20 : ∀ q_, own (some ⟨b_10, 0, none⟩) q_ → w.heap.size ≤ q_ := fun q_ h => Nat.le_trans K0.size ((ge_new hl_14) q_ h)
      clear hl_14
      replace hB := hB.ext K_12
      replace hL := hL.ext K_12
      replace hC := hC.ext K_12
      replace hU := hU.ext K_12
      replace K0 := K0.ext K_12
      refine RL.st rfl <| St1.buildSlice ([⟨some ⟨b_10, 0, none⟩, ([x, y] : List Int).length, ([x, y] : List Int).length⟩] : List SH) Tryz.underlying37 ty75 rfl rfl (by first | decide | (simp [Enc.size])) ?_
      intro b_21 w_22 hl_25 ho_24 K_23
      have pr_26 : ¬ own (some ⟨b_21, 0, none⟩) r := notNew (ge_new hl_25) hB.lt
      have pr_27 : ∀ q_, own (some ⟨b_21, 0, none⟩) q_ → ¬ own aL q_ := apartNew (ge_new hl_25) hL.own_lt
      have pr_28 : ∀ q_, own (some ⟨b_21, 0, none⟩) q_ → ¬ own aC q_ := apartNew (ge_new hl_25) hC.own_lt
      have pr_29 : ∀ q_, own (some ⟨b_21, 0, none⟩) q_ → ¬ cutsS cu q_ := apartNew (ge_new hl_25) hU.own_lt
      have pr_30 : ∀ q_, own (some ⟨b_21, 0, none⟩) q_ → ¬ own (some ⟨b_10, 0, none⟩) q_ := apartNew (ge_new hl_25) ho_13.own_lt
      have pg_31 : ∀ q_, own (some ⟨b_21, 0, none⟩) q_ → q_ < w.heap.size → (rS r aL aC cu) q_ := fun q_ h hlt => absurd (Nat.le_trans K0.size ((ge_new hl_25) q_ h)) (by omega)
      have pw_32 : ∀ q_, own (some ⟨b_21, 0, none⟩) q_ → w.heap.size ≤ q_ := fun q_ h => Nat.le_trans K0.size ((ge_new hl_25) q_ h)
      clear hl_25
      replace hB := hB.ext K_23
      replace hL := hL.ext K_23
      replace hC := hC.ext K_23
      replace hU := hU.ext K_23
      replace ho_13 := ho_13.ext K_23
      replace K0 := K0.ext K_23
      refine RL.st rfl <| St1.append (xs := cu.map CutR.sh) (ys := ([⟨some ⟨b_10, 0, none⟩, ([x, y] : List Int).length, ([x, y] : List Int).length⟩] : List SH)) Tryz.underlying37 ty75 rfl rfl rfl hC ho_24.sl (by simp only [lr]; omega) (by decide) ?_
      intro a_33 c_34 w_35 ho_36 K_37 hm_38 hrm_39
      have pr_40 : ¬ own a_33 r := hm_38.not hn2 hB.lt
      have pr_41 : ∀ q_, own a_33 q_ → ¬ own aL q_ := hm_38.apart hn3 hL.own_lt
      have pr_42 : ∀ q_, own a_33 q_ → ¬ cutsS cu q_ := hm_38.apart (fun q_ h1 h2 => hn6 q_ h2 h1) hU.own_lt
      have pr_43 : ∀ q_, own a_33 q_ → ¬ own (some ⟨b_10, 0, none⟩) q_ := hm_38.apart (fun q_ h1 h2 => pr_17 q_ h2 h1) ho_13.own_lt
      have pr_44 : ∀ q_, own a_33 q_ → ¬ own (some ⟨b_21, 0, none⟩) q_ := hm_38.apart (fun q_ h1 h2 => pr_28 q_ h2 h1) ho_24.own_lt
      have pg_45 : ∀ q_, own a_33 q_ → q_ < w.heap.size → (rS r aL aC cu) q_ := hm_38.inS (fun q_ h_ _ => Or.inr (Or.inr (Or.inl h_))) K0.size
      replace hB := hB.keep K_37 hn2
      replace hL := hL.keepO K_37 (fun q_ h1 h2 => hn3 q_ h2 h1)
      replace hU := hU.keepO K_37 hn6
      replace ho_13 := ho_13.keepO K_37 pr_17
      replace ho_24 := ho_24.keepO K_37 pr_28
      replace K0 := K0.trans K_37 (fun x hlt hx => (fun q_ h_ _ => Or.inr (Or.inr (Or.inl h_))) x hx hlt)
      clear hm_38
      clear hrm_39
      refine RL.val (x_nilCheck rfl) ?_
      refine RL.val (x_fld (o' := 3) Tryz.underlying39 rfl ty37 rfl rfl rfl) ?_
      refine RL.st rfl <| St1.store (v := .slice (a_33) (((cu.map CutR.sh) ++ ([⟨some ⟨b_10, 0, none⟩, ([x, y] : List Int).length, ([x, y] : List Int).length⟩] : List SH)).length) (c_34)) ty37 rfl rfl rfl (by simp [Value.cells, Value.oneCell']) hB (by simp) ?_
      intro w_46 hB_ K_47
      have hB' : Blk w_46 r [.int .i64 (nodes), .slice (aL) ((ks.map Pk.k).length) (cL), .int .i64 (id), .slice (a_33) (((cu.map CutR.sh) ++ ([⟨some ⟨b_10, 0, none⟩, ([x, y] : List Int).length, ([x, y] : List Int).length⟩] : List SH)).length) (c_34), .int .i64 (now)] 39 := hB_
      clear hB_
      replace hL := hL.keepO K_47 (fun q_ hq_ eq_ => hn1 (by simp only [one] at eq_; rw [← eq_]; exact hq_))
      replace hU := hU.keepO K_47 (fun q_ hq_ eq_ => hn4 (by simp only [one] at eq_; rw [← eq_]; exact hq_))
      replace ho_13 := ho_13.keepO K_47 (fun q_ hq_ eq_ => pr_15 (by simp only [one] at eq_; rw [← eq_]; exact hq_))
      replace ho_24 := ho_24.keepO K_47 (fun q_ hq_ eq_ => pr_26 (by simp only [one] at eq_; rw [← eq_]; exact hq_))
      replace ho_36 := ho_36.keepO K_47 (fun q_ hq_ eq_ => pr_40 (by simp only [one] at eq_; rw [← eq_]; exact hq_))
      replace K0 := K0.trans K_47 (fun x _ hx => by simp only [one] at hx; subst hx; exact (Or.inl rfl))
      replace hB := hB'
      clear hB'
      refine RL.nil ?_
      have hU_48 : CutsAt w_46 (cu ++ [(⟨x, y, ⟨some ⟨b_10, 0, none⟩, 2, 2⟩⟩ : CutR)]) := CutsAt.snoc hU ho_13
      have pr_49 : ¬ cutsS (cu ++ [(⟨x, y, ⟨some ⟨b_10, 0, none⟩, 2, 2⟩⟩ : CutR)]) r := fun x_ => (cuts_case _ x_).elim hn4 (fun y_ => pr_15 y_)
      have pr_50 : ∀ q_, cutsS (cu ++ [(⟨x, y, ⟨some ⟨b_10, 0, none⟩, 2, 2⟩⟩ : CutR)]) q_ → ¬ own aL q_ := fun q_ x_ z_ => (cuts_case _ x_).elim (fun y_ => hn5 q_ y_ z_) (fun y_ => (fun y_ => pr_16 q_ y_ z_) y_)
      have pr_51 : ∀ q_, cutsS (cu ++ [(⟨x, y, ⟨some ⟨b_10, 0, none⟩, 2, 2⟩⟩ : CutR)]) q_ → ¬ own (some ⟨b_21, 0, none⟩) q_ := fun q_ x_ z_ => (cuts_case _ x_).elim (fun y_ => (fun q_ h1 h2 => pr_29 q_ h2 h1) q_ y_ z_) (fun y_ => (fun y_ => (fun q_ h1 h2 => pr_30 q_ h2 h1) q_ y_ z_) y_)
      have pr_52 : ∀ q_, cutsS (cu ++ [(⟨x, y, ⟨some ⟨b_10, 0, none⟩, 2, 2⟩⟩ : CutR)]) q_ → ¬ own a_33 q_ := fun q_ x_ z_ => (cuts_case _ x_).elim (fun y_ => (fun q_ h1 h2 => pr_42 q_ h2 h1) q_ y_ z_) (fun y_ => (fun y_ => (fun q_ h1 h2 => pr_43 q_ h2 h1) q_ y_ z_) y_)
      have pg_53 : ∀ q_, cutsS (cu ++ [(⟨x, y, ⟨some ⟨b_10, 0, none⟩, 2, 2⟩⟩ : CutR)]) q_ → q_ < w.heap.size → (rS r aL aC cu) q_ := fun q_ x_ hl_ => (cuts_case _ x_).elim (fun y_ => (fun q_ h_ _ => Or.inr (Or.inr (Or.inr h_))) q_ y_ hl_) (fun y_ => (fun y_ => pg_19 q_ y_ hl_) y_)
      have e : (cu ++ [(⟨x, y, ⟨some ⟨b_10, 0, none⟩, 2, 2⟩⟩ : CutR)]).map CutR.sh = (cu.map CutR.sh) ++ ([⟨some ⟨b_10, 0, none⟩, ([x, y] : List Int).length, ([x, y] : List Int).length⟩] : List SH) := by rw [List.map_append]; rfl
      rw [← e] at ho_36 hB
      refine Run.seq ?_
      refine Run.region ?_
      refine RL.val (x_assignI rfl) ?_
      refine RL.nil ?_
      refine Run.ret1 (v := .int .i64 (0)) Tryz.func25 rfl rfl ?_
      obtain ⟨e1, e0⟩ := cutL_put (c := (⟨x, y, ⟨some ⟨b_10, 0, none⟩, 2, 2⟩⟩ : CutR)) (by simpa using hc11) hn_9 rfl
      exact ⟨_, rfl, (cu ++ [(⟨x, y, ⟨some ⟨b_10, 0, none⟩, 2, 2⟩⟩ : CutR)]), by rw [e0], e1, by rw [List.length_append]; exact Nat.le_refl _, _, _, _, _, ⟨hB, hL, ho_36, hU_48, hn1, pr_40, pr_41, pr_49, pr_50, pr_52, hok, (by rw [List.length_append]; simp only [List.length_singleton]; omega)⟩, (moved_of (rS_elim (Or.inl rfl) (fun q_ h_ _ => Or.inr (Or.inl h_)) pg_45 pg_53)), K0⟩

set_option maxRecDepth 100000 in
set_option maxHeartbeats 4000000 in
theorem mendRW (r : Nat) (aL : Option Addr) (cL : Nat) (aC : Option Addr) (cC : Nat) (nodes id now : Int) (ks : List Pk) (cu : List CutR) (x y : Int) (w : World) (hD : RefO w r aL cL aC cC nodes id now ks cu) :
    Calls Tryz.prog 27 #[.pointer (some ⟨r, 0, none⟩), .int .i64 (x), .int .i64 (y)] w (Ret (fun v w' => ∃ cv, v = .int .i64 (mendE nodes (cu.map CutR.l) x y) ∧ cv.map CutR.l = mendL nodes (cu.map CutR.l) x y ∧ cv.length ≤ cu.length + 1 ∧ ∃ a' c' d' e', RefO w' r a' c' d' e' nodes id now ks cv ∧ MovedS w (rS r aL aC cu) (rS r a' d' cv) ∧ Keeps (rS r aL aC cu) w w')) := by
  obtain ⟨hB, hL, hC, hU, hn1, hn2, hn3, hn4, hn5, hn6, hok, hcl⟩ := hD
  obtain ⟨hno1, hno2⟩ := hok.nodes
  obtain ⟨hnw1, hnw2⟩ := hok.now
  have hid0 := hok.id0
  have hl5 := hok.len
  rw [p_len] at hl5
  have hkl : (ks.map Pk.k).length = ks.length := List.length_map ..
  have hcul : (cu.map CutR.sh).length = cu.length := List.length_map ..
  have hcap := hC.le_cap
  refine calls_run (n := 39) Tryz.func27 rfl rfl rfl ?_
  refine Run.seq ?_
  refine Run.region ?_
  refine RL.val (x_assignI rfl) ?_
  refine RL.nil ?_
  refine Run.seq ?_
  refine Run.seq ?_
  refine Run.region ?_
  refine RL.val (x_moveP rfl) ?_
  refine RL.val (x_moveI rfl) ?_
  refine RL.val (x_moveI rfl) ?_
  refine RL.st rfl <| St1.call (vals := [.pointer (some ⟨r, 0, none⟩), .int .i64 (x), .int .i64 (y)]) en53 rfl (twoR r aL cL aC cC nodes id now ks cu x y _ (⟨hB, hL, hC, hU, hn1, hn2, hn3, hn4, hn5, hn6, hok, hcl⟩ : RefO _ r aL cL aC cC nodes id now ks cu)) ?_
  rintro _ w_1 ⟨rfl, K_2⟩
  replace hB := hB.ext K_2
  replace hL := hL.ext K_2
  replace hC := hC.ext K_2
  replace hU := hU.ext K_2
  have K0 := (K_2 : Ext w _).to (S := (rS r aL aC cu))
  refine RL.val (x_not rfl) ?_
  refine RL.nil ?_
  refine Run.cond rfl (fun hc13 => ?_) (fun hc13 => ?_)
  · try simp only [br] at hc13
    refine Run.seq ?_
    refine Run.region ?_
    refine RL.val (x_assignI rfl) ?_
    refine RL.nil ?_
    refine Run.ret1 (v := .int .i64 (1)) Tryz.func27 rfl rfl ?_
    have e0 := mendE1 (cs := cu.map CutR.l) (by simpa using hc13)
    exact ⟨_, rfl, cu, by rw [e0], mendL_no e0 (by decide), by omega, _, _, _, _, ⟨hB, hL, hC, hU, hn1, hn2, hn3, hn4, hn5, hn6, hok, hcl⟩, (moved_of (rS_elim (Or.inl rfl) (fun q_ h_ _ => Or.inr (Or.inl h_)) (fun q_ h_ _ => Or.inr (Or.inr (Or.inl h_))) (fun q_ h_ _ => Or.inr (Or.inr (Or.inr h_))))), K0⟩
  · try simp only [br] at hc13
    refine Run.skip ?_
    refine Run.seq ?_
    refine Run.region ?_
    refine RL.val (x_moveP rfl) ?_
    refine RL.val (x_moveI rfl) ?_
    refine RL.val (x_moveI rfl) ?_
    refine RL.st rfl <| St1.call (vals := [.pointer (some ⟨r, 0, none⟩), .int .i64 (x), .int .i64 (y)]) en54 rfl (cutR r aL cL aC cC nodes id now ks cu x y _ (⟨hB, hL, hC, hU, hn1, hn2, hn3, hn4, hn5, hn6, hok, hcl⟩ : RefO _ r aL cL aC cC nodes id now ks cu)) ?_
    rintro _ w_5 (⟨j_3, c_4, hcu_7, hl_8, hn_9, rfl, K_6⟩ | ⟨hn_9, rfl, K_6⟩)
    · replace hB := hB.ext K_6
      replace hL := hL.ext K_6
      replace hC := hC.ext K_6
      replace hU := hU.ext K_6
      replace K0 := K0.ext K_6
      have hjl_j_3 := (List.getElem?_eq_some_iff.1 hcu_7).1
      refine RL.val (x_assignI rfl) ?_
      refine RL.nil ?_
      refine Run.seq ?_
      refine Run.seq ?_
      refine Run.region ?_
      refine RL.val (x_moveI rfl) ?_
      refine RL.val (litF (x_ltI rfl rfl) (by simp)) ?_
      refine RL.nil ?_
      refine Run.condF rfl ?_
      refine Run.skip ?_
      refine Run.seq ?_
      refine Run.region ?_
      refine RL.val (x_moveP rfl) ?_
      refine RL.val (x_nilCheck rfl) ?_
      refine RL.val (x_fld (o' := 3) Tryz.underlying39 rfl ty37 rfl rfl rfl) ?_
      refine RL.val (x_ld (v := .slice (aC) ((cu.map CutR.sh).length) (cC)) ty37 rfl rfl (hB.cl.field (i := 3) rfl)) ?_
      refine RL.val (x_moveI rfl) ?_
      refine RL.val (litSl (m' := ((cu.map CutR.sh).take j_3).length) (x_sliceTo Tryz.underlying37 ty75 rfl rfl (by omega)) (by rw [List.length_take]; omega)) ?_
      have ho_10 := OwnSl.nil (α := SH) w_5 75
      refine RL.st rfl <| St1.append (xs := ([] : List SH)) (ys := (cu.map CutR.sh).take j_3) Tryz.underlying37 ty75 rfl rfl rfl ho_10 (hC.sl.take j_3) (by simp only [lr, List.length_take]; omega) (by decide) ?_
      intro a_11 c_12 w_13 ho_14 K_15 hm_16 hrm_17
      have pr_18 : ¬ own a_11 r := hm_16.not (own_none r) hB.lt
      have pr_19 : ∀ q_, own a_11 q_ → ¬ own aL q_ := hm_16.apart (fun q_ h1 _ => own_none q_ h1) hL.own_lt
      have pr_20 : ∀ q_, own a_11 q_ → ¬ own aC q_ := hm_16.apart (fun q_ h1 _ => own_none q_ h1) hC.own_lt
      have pr_21 : ∀ q_, own a_11 q_ → ¬ cutsS cu q_ := hm_16.apart (fun q_ h1 _ => own_none q_ h1) hU.own_lt
      have pg_22 : ∀ q_, own a_11 q_ → q_ < w.heap.size → (rS r aL aC cu) q_ := hm_16.inS (fun q_ h1 _ => absurd h1 (own_none q_)) K0.size
      have pw_23 : ∀ q_, own a_11 q_ → w.heap.size ≤ q_ := hm_16.ge (fun q_ h1 => absurd h1 (own_none q_)) K0.size
      replace hB := hB.keep K_15 (own_none r)
      replace hL := hL.keepO K_15 (fun q_ h1 h2 => (fun q_ h1 _ => own_none q_ h1) q_ h2 h1)
      replace hC := hC.keepO K_15 (fun q_ h1 h2 => (fun q_ h1 _ => own_none q_ h1) q_ h2 h1)
      replace hU := hU.keepO K_15 (fun q_ h1 h2 => (fun q_ h1 _ => own_none q_ h1) q_ h2 h1)
      replace K0 := K0.trans K_15 (fun x hlt hx => (fun q_ h1 _ => absurd h1 (own_none q_)) x hx hlt)
      clear hm_16
      clear hrm_17
      refine RL.val (x_assignSl rfl) ?_
      refine RL.nil ?_
      refine Run.seq ?_
      refine Run.region ?_
      refine RL.val (x_moveP rfl) ?_
      refine RL.val (x_moveSl rfl) ?_
      refine RL.val (x_moveP rfl) ?_
      refine RL.val (x_nilCheck rfl) ?_
      refine RL.val (x_fld (o' := 3) Tryz.underlying39 rfl ty37 rfl rfl rfl) ?_
      refine RL.val (x_ld (v := .slice (aC) ((cu.map CutR.sh).length) (cC)) ty37 rfl rfl (hB.cl.field (i := 3) rfl)) ?_
      refine RL.val (x_moveI rfl) ?_
      refine RL.val (litI (c := ((j_3 + 1 : Nat) : Int)) (x_add rfl rfl (by omega) (by omega)) rfl) ?_
      refine RL.val (x_sliceFrom (xs := cu.map CutR.sh) Tryz.underlying37 ty75 rfl rfl (by omega)) ?_
      refine RL.st rfl <| St1.append (xs := ([] : List SH) ++ (cu.map CutR.sh).take j_3) (ys := (cu.map CutR.sh).drop (j_3 + 1)) Tryz.underlying37 ty75 rfl rfl rfl ho_14 (hC.sl.from (j_3 + 1) cC (hC.le_cap)) (by simp only [lr, List.length_take, List.length_drop]; omega) (by decide) ?_
      intro a_24 c_25 w_26 ho_27 K_28 hm_29 hrm_30
      have pr_31 : ¬ own a_24 r := hm_29.not pr_18 hB.lt
      have pr_32 : ∀ q_, own a_24 q_ → ¬ own aL q_ := hm_29.apart pr_19 hL.own_lt
      have pr_33 : ∀ q_, own a_24 q_ → ¬ own aC q_ := hm_29.apart pr_20 hC.own_lt
      have pr_34 : ∀ q_, own a_24 q_ → ¬ cutsS cu q_ := hm_29.apart pr_21 hU.own_lt
      have pg_35 : ∀ q_, own a_24 q_ → q_ < w.heap.size → (rS r aL aC cu) q_ := hm_29.inS pg_22 K0.size
      have pw_36 : ∀ q_, own a_24 q_ → w.heap.size ≤ q_ := hm_29.ge pw_23 K0.size
      replace hB := hB.keep K_28 pr_18
      replace hL := hL.keepO K_28 (fun q_ h1 h2 => pr_19 q_ h2 h1)
      replace hC := hC.keepO K_28 (fun q_ h1 h2 => pr_20 q_ h2 h1)
      replace hU := hU.keepO K_28 (fun q_ h1 h2 => pr_21 q_ h2 h1)
      replace K0 := K0.trans K_28 (fun x hlt hx => pg_22 x hx hlt)
      clear hm_29
      clear hrm_30
      refine RL.val (x_nilCheck rfl) ?_
      refine RL.val (x_fld (o' := 3) Tryz.underlying39 rfl ty37 rfl rfl rfl) ?_
      refine RL.st rfl <| St1.store (v := .slice (a_24) (((([] : List SH) ++ (cu.map CutR.sh).take j_3) ++ (cu.map CutR.sh).drop (j_3 + 1)).length) (c_25)) ty37 rfl rfl rfl (by simp [Value.cells, Value.oneCell']) hB (by simp) ?_
      intro w_37 hB_ K_38
      have hB' : Blk w_37 r [.int .i64 (nodes), .slice (aL) ((ks.map Pk.k).length) (cL), .int .i64 (id), .slice (a_24) (((([] : List SH) ++ (cu.map CutR.sh).take j_3) ++ (cu.map CutR.sh).drop (j_3 + 1)).length) (c_25), .int .i64 (now)] 39 := hB_
      clear hB_
      replace hL := hL.keepO K_38 (fun q_ hq_ eq_ => hn1 (by simp only [one] at eq_; rw [← eq_]; exact hq_))
      replace hC := hC.keepO K_38 (fun q_ hq_ eq_ => hn2 (by simp only [one] at eq_; rw [← eq_]; exact hq_))
      replace hU := hU.keepO K_38 (fun q_ hq_ eq_ => hn4 (by simp only [one] at eq_; rw [← eq_]; exact hq_))
      replace ho_27 := ho_27.keepO K_38 (fun q_ hq_ eq_ => pr_31 (by simp only [one] at eq_; rw [← eq_]; exact hq_))
      replace K0 := K0.trans K_38 (fun x _ hx => by simp only [one] at hx; subst hx; exact (Or.inl rfl))
      replace hB := hB'
      clear hB'
      refine RL.nil ?_
      refine Run.seq ?_
      refine Run.region ?_
      refine RL.val (x_assignI rfl) ?_
      refine RL.nil ?_
      refine Run.ret1 (v := .int .i64 (0)) Tryz.func27 rfl rfl ?_
      have hU_39 : CutsAt w_37 (cu.take j_3 ++ cu.drop (j_3 + 1)) := CutsAt.sub hU mid_mem
      have pr_40 : ¬ cutsS (cu.take j_3 ++ cu.drop (j_3 + 1)) r := fun x_ => hn4 ((cuts_sub mid_mem) _ x_)
      have pr_41 : ∀ q_, cutsS (cu.take j_3 ++ cu.drop (j_3 + 1)) q_ → ¬ own aL q_ := fun q_ x_ z_ => (fun y_ => hn5 q_ y_ z_) ((cuts_sub mid_mem) _ x_)
      have pr_42 : ∀ q_, cutsS (cu.take j_3 ++ cu.drop (j_3 + 1)) q_ → ¬ own aC q_ := fun q_ x_ z_ => (fun y_ => hn6 q_ y_ z_) ((cuts_sub mid_mem) _ x_)
      have pr_43 : ∀ q_, cutsS (cu.take j_3 ++ cu.drop (j_3 + 1)) q_ → ¬ own a_24 q_ := fun q_ x_ z_ => (fun y_ => (fun q_ h1 h2 => pr_34 q_ h2 h1) q_ y_ z_) ((cuts_sub mid_mem) _ x_)
      have pg_44 : ∀ q_, cutsS (cu.take j_3 ++ cu.drop (j_3 + 1)) q_ → q_ < w.heap.size → (rS r aL aC cu) q_ := fun q_ x_ hl_ => (fun y_ => (fun q_ h_ _ => Or.inr (Or.inr (Or.inr h_))) q_ y_ hl_) ((cuts_sub mid_mem) _ x_)
      have e : (cu.take j_3 ++ cu.drop (j_3 + 1)).map CutR.sh = (([] : List SH) ++ (cu.map CutR.sh).take j_3) ++ (cu.map CutR.sh).drop (j_3 + 1) := by rw [List.nil_append, List.map_append, List.map_take, List.map_drop]
      rw [← e] at ho_27 hB
      have hml := (mid_sub2 (xs := cu) (j := j_3)).length_le
      obtain ⟨e1, e0⟩ := mend_at (by simpa using hc13) hcu_7 hl_8 hn_9
      exact ⟨_, rfl, (cu.take j_3 ++ cu.drop (j_3 + 1)), by rw [e0], e1, by omega, _, _, _, _, ⟨hB, hL, ho_27, hU_39, hn1, pr_31, pr_32, pr_40, pr_41, pr_43, hok, (by omega)⟩, (moved_of (rS_elim (Or.inl rfl) (fun q_ h_ _ => Or.inr (Or.inl h_)) pg_35 pg_44)), K0⟩
    · replace hB := hB.ext K_6
      replace hL := hL.ext K_6
      replace hC := hC.ext K_6
      replace hU := hU.ext K_6
      replace K0 := K0.ext K_6
      refine RL.val (x_assignI rfl) ?_
      refine RL.nil ?_
      refine Run.seq ?_
      refine Run.seq ?_
      refine Run.region ?_
      refine RL.val (x_moveI rfl) ?_
      refine RL.val (litT (x_ltI rfl rfl) (by decide)) ?_
      refine RL.nil ?_
      refine Run.condT rfl ?_
      refine Run.seq ?_
      refine Run.region ?_
      refine RL.val (x_assignI rfl) ?_
      refine RL.nil ?_
      refine Run.ret1 (v := .int .i64 (220)) Tryz.func27 rfl rfl ?_
      have e0 := mendE2 (cs := cu.map CutR.l) (by simpa using hc13) hn_9
      exact ⟨_, rfl, cu, by rw [e0], mendL_no e0 (by decide), by omega, _, _, _, _, ⟨hB, hL, hC, hU, hn1, hn2, hn3, hn4, hn5, hn6, hok, hcl⟩, (moved_of (rS_elim (Or.inl rfl) (fun q_ h_ _ => Or.inr (Or.inl h_)) (fun q_ h_ _ => Or.inr (Or.inr (Or.inl h_))) (fun q_ h_ _ => Or.inr (Or.inr (Or.inr h_))))), K0⟩

set_option maxRecDepth 100000 in
set_option maxHeartbeats 4000000 in
theorem passRW (r : Nat) (aL : Option Addr) (cL : Nat) (aC : Option Addr) (cC : Nat) (nodes id now : Int) (ks : List Pk) (cu : List CutR) (n : Int) (w : World) (hD : RefO w r aL cL aC cC nodes id now ks cu) :
    Calls Tryz.prog 28 #[.pointer (some ⟨r, 0, none⟩), .int .i64 (n)] w (Ret (fun v w' => v = .int .i64 (passE now n) ∧ ∃ a' c' d' e', RefO w' r a' c' d' e' nodes id (passN now n) ks cu ∧ MovedS w (rS r aL aC cu) (rS r a' d' cu) ∧ Keeps (rS r aL aC cu) w w')) := by
  obtain ⟨hB, hL, hC, hU, hn1, hn2, hn3, hn4, hn5, hn6, hok, hcl⟩ := hD
  obtain ⟨hno1, hno2⟩ := hok.nodes
  obtain ⟨hnw1, hnw2⟩ := hok.now
  have hid0 := hok.id0
  have hl5 := hok.len
  rw [p_len] at hl5
  have hkl : (ks.map Pk.k).length = ks.length := List.length_map ..
  have hcul : (cu.map CutR.sh).length = cu.length := List.length_map ..
  refine calls_run (n := 25) Tryz.func28 rfl rfl rfl ?_
  refine Run.seq ?_
  refine Run.region ?_
  refine RL.val (x_assignI rfl) ?_
  refine RL.nil ?_
  refine Run.seq ?_
  refine Run.seq ?_
  refine Run.region ?_
  refine RL.val (x_moveI rfl) ?_
  refine RL.val (x_ltI rfl rfl) ?_
  refine RL.val (x_moveB rfl) ?_
  refine RL.gval (wantedF rfl rfl rfl rfl) (fun hg => (x_moveI rfl)) ?_
  refine RL.gval (wantedF rfl rfl rfl rfl) (fun hg => (x_moveP rfl)) ?_
  refine RL.gval (wantedF rfl rfl rfl rfl) (fun hg => (x_nilCheck (gvr hg))) ?_
  refine RL.gval (wantedF rfl rfl rfl rfl) (fun hg => (x_fld (o' := 4) Tryz.underlying39 rfl ty3 rfl (gvr hg) rfl)) ?_
  refine RL.gval (wantedF rfl rfl rfl rfl) (fun hg => (x_ld (v := .int .i64 (now)) ty3 (gvr hg) rfl (hB.cl.field (i := 4) rfl))) ?_
  refine RL.gval (wantedF rfl rfl rfl rfl) (fun hg => (x_sub rfl (gvr hg) (by omega) (by omega))) ?_
  refine RL.gval (wantedF rfl rfl rfl rfl) (fun hg => (x_gtI (gvr hg) (gvr hg))) ?_
  refine RL.val (x_or rfl rfl rfl) ?_
  refine RL.nil ?_
  refine Run.cond rfl (fun hc15 => ?_) (fun hc15 => ?_)
  · try simp only [br] at hc15
    refine Run.seq ?_
    refine Run.region ?_
    refine RL.val (x_assignI rfl) ?_
    refine RL.nil ?_
    refine Run.ret1 (v := .int .i64 (1)) Tryz.func28 rfl rfl ?_
    obtain ⟨e0, e1⟩ := passE1 (n := n) (now := now) (by omega)
    exact ⟨_, rfl, by rw [e0], by rw [e1]; exact ⟨_, _, _, _, ⟨hB, hL, hC, hU, hn1, hn2, hn3, hn4, hn5, hn6, hok, hcl⟩, (moved_of (rS_elim (Or.inl rfl) (fun q_ h_ _ => Or.inr (Or.inl h_)) (fun q_ h_ _ => Or.inr (Or.inr (Or.inl h_))) (fun q_ h_ _ => Or.inr (Or.inr (Or.inr h_))))), Keeps.refl _ _⟩⟩
  · try simp only [br] at hc15
    refine Run.skip ?_
    refine Run.seq ?_
    refine Run.region ?_
    refine RL.val (x_moveP rfl) ?_
    refine RL.val (x_moveP rfl) ?_
    refine RL.val (x_nilCheck rfl) ?_
    refine RL.val (x_fld (o' := 4) Tryz.underlying39 rfl ty3 rfl rfl rfl) ?_
    refine RL.val (x_ld (v := .int .i64 (now)) ty3 rfl rfl (hB.cl.field (i := 4) rfl)) ?_
    refine RL.val (x_moveI rfl) ?_
    refine RL.val (x_add rfl rfl (by omega) (by omega)) ?_
    refine RL.val (x_nilCheck rfl) ?_
    refine RL.val (x_fld (o' := 4) Tryz.underlying39 rfl ty3 rfl rfl rfl) ?_
    refine RL.st rfl <| St1.store (v := .int .i64 (now + n)) ty3 rfl rfl rfl (by simp [Value.cells, Value.oneCell']) hB (by simp) ?_
    intro w_1 hB_ K_2
    have hB' : Blk w_1 r [.int .i64 (nodes), .slice (aL) ((ks.map Pk.k).length) (cL), .int .i64 (id), .slice (aC) ((cu.map CutR.sh).length) (cC), .int .i64 (now + n)] 39 := hB_
    clear hB_
    replace hL := hL.keepO K_2 (fun q_ hq_ eq_ => hn1 (by simp only [one] at eq_; rw [← eq_]; exact hq_))
    replace hC := hC.keepO K_2 (fun q_ hq_ eq_ => hn2 (by simp only [one] at eq_; rw [← eq_]; exact hq_))
    replace hU := hU.keepO K_2 (fun q_ hq_ eq_ => hn4 (by simp only [one] at eq_; rw [← eq_]; exact hq_))
    have K0 := (Keeps.refl (rS r aL aC cu) w).trans K_2 (fun x _ hx => by simp only [one] at hx; subst hx; exact (Or.inl rfl))
    replace hB := hB'
    clear hB'
    refine RL.nil ?_
    refine Run.seq ?_
    refine Run.region ?_
    refine RL.val (x_assignI rfl) ?_
    refine RL.nil ?_
    refine Run.ret1 (v := .int .i64 (0)) Tryz.func28 rfl rfl ?_
    obtain ⟨e0, e1⟩ := passE0 (n := n) (now := now) (by omega)
    exact ⟨_, rfl, by rw [e0], by rw [e1]; exact ⟨_, _, _, _, ⟨hB, hL, hC, hU, hn1, hn2, hn3, hn4, hn5, hn6, ⟨hok.nodes, hok.id0, ⟨by omega, by omega⟩, hok.rise, hok.le, hok.len⟩, hcl⟩, (moved_of (rS_elim (Or.inl rfl) (fun q_ h_ _ => Or.inr (Or.inl h_)) (fun q_ h_ _ => Or.inr (Or.inr (Or.inl h_))) (fun q_ h_ _ => Or.inr (Or.inr (Or.inr h_))))), K0⟩⟩

end Go.Proofs.YtdlaoncjiolckaaGreat
