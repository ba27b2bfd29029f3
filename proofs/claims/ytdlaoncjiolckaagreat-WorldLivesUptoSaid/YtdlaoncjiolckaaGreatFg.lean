/-
  Layer 22: Forget.
-/
import Derived.Test.YtdlaoncjiolckaaGreatRows
import Derived.Test.YtdlaoncjiolckaaGreatSp
import Derived.Test.YtdlaoncjiolckaaGreatIter
namespace Go.Proofs.YtdlaoncjiolckaaGreat
attribute [local irreducible] St1 RL RA RT RT1 Run

def kpB (n : Int) (rs : List Pk) (p : Pk) : Bool := fkB n p.v || decide (p.id ∈ rs.map Pk.id)
section
variable {ts rs : List Pk} {n : Int} {j : Nat} {p : Pk} {a : Int} {v : Value}
theorem fg_not {x : MV} : ((x.frm == n) || (x.to == n)) = !fkB n x := by
  unfold fkB
  simp [bne]
theorem pents_get (h : (pents rs)[j]? = some (a, v)) : ∃ p, rs[j]? = some p ∧ a = p.id ∧ v = mval p.v p.s := by
  unfold pents at h
  rw [List.getElem?_map, Option.map_eq_some_iff] at h
  obtain ⟨p, hp, e⟩ := h
  simp only [Prod.mk.injEq] at e
  exact ⟨p, hp, e.1.symm, e.2.symm⟩
theorem pents_erase : (pents rs).eraseIdx j = pents (rs.eraseIdx j) := (map_eraseI _ _ _).symm
theorem erase_ltP (h : rs[j]? = some p) : (rs.eraseIdx j).length < rs.length := by
  have := (List.getElem?_eq_some_iff.1 h).1
  rw [List.length_eraseIdx_of_lt this]; omega
theorem in_erase {x : Pk} (h : rs[j]? = some p) (hx : x.id ≠ p.id) : (x.id ∈ (rs.eraseIdx j).map Pk.id) ↔ x.id ∈ rs.map Pk.id := by
  constructor
  · intro hm
    obtain ⟨y, hy, e⟩ := List.mem_map.1 hm
    exact List.mem_map.2 ⟨y, List.mem_of_mem_eraseIdx hy, e⟩
  · intro hm
    obtain ⟨y, hy, e⟩ := List.mem_map.1 hm
    obtain ⟨i, hi⟩ := List.getElem?_of_mem hy
    refine List.mem_map.2 ⟨y, List.mem_eraseIdx_iff_getElem?.2 ⟨i, fun q => ?_, hi⟩, e⟩
    subst q
    rw [h] at hi
    obtain rfl := Option.some.inj hi
    exact hx e.symm
theorem out_erase (h : rs[j]? = some p) (hn : (rs.map Pk.id).Nodup) : p.id ∉ (rs.eraseIdx j).map Pk.id := fun hm => by
  rw [map_eraseI] at hm
  obtain ⟨i, hij, hi⟩ := List.mem_eraseIdx_iff_getElem?.1 hm
  have hj : (rs.map Pk.id)[j]? = some p.id := by rw [List.getElem?_map, h]; rfl
  obtain ⟨q1, q2⟩ := List.getElem?_eq_some_iff.1 hi
  obtain ⟨q3, q4⟩ := List.getElem?_eq_some_iff.1 hj
  have hnd := List.pairwise_iff_getElem.1 hn
  rcases Nat.lt_trichotomy i j with h1 | h1 | h1
  · exact hnd i j q1 q3 h1 (q2.trans q4.symm)
  · exact hij h1
  · exact hnd j i q3 q1 h1 (q4.trans q2.symm)
theorem kp_keep (hr : (ts.map Pk.p).Pairwise (fun x y => x.1 < y.1)) (hf : rs[j]? = some p) (hsub : ∀ x ∈ rs, x ∈ ts) (hk : fkB n p.v = true) : ts.filter (kpB n rs) = ts.filter (kpB n (rs.eraseIdx j)) := by
  refine List.filter_congr fun x hx => ?_
  unfold kpB
  cases hv : fkB n x.v with
  | true => rfl
  | false =>
    have hne : x.id ≠ p.id := fun e => by
      rw [p_inj hr hx (hsub p (List.mem_of_getElem? hf)) e, hk] at hv; cases hv
    rw [decide_eq_decide.2 (in_erase hf hne).symm]
theorem kp_del (hr : (ts.map Pk.p).Pairwise (fun x y => x.1 < y.1)) (hf : rs[j]? = some p) (hsub : ∀ x ∈ rs, x ∈ ts) (hn : (rs.map Pk.id).Nodup) (hk : fkB n p.v = false) : mdel (pents (ts.filter (kpB n rs))) p.id = pents (ts.filter (kpB n (rs.eraseIdx j))) := by
  have hp := hsub p (List.mem_of_getElem? hf)
  have hin : p ∈ ts.filter (kpB n rs) := List.mem_filter.2 ⟨hp, by unfold kpB; rw [hk, decide_eq_true (List.mem_map.2 ⟨p, List.mem_of_getElem? hf, rfl⟩)]; rfl⟩
  have hr2 : ((ts.filter (kpB n rs)).map Pk.p).Pairwise (fun x y => x.1 < y.1) := hr.sublist (List.filter_sublist.map _)
  obtain ⟨l1, l2, e⟩ := List.append_of_mem hin
  rw [pents_del hr2 e rfl]
  congr 1
  have hne : ∀ x ∈ l1 ++ l2, x.id ≠ p.id := fun x hx => by
    have h2 := hr2
    rw [e, List.map_append, List.map_cons] at h2
    obtain ⟨-, h3, h4⟩ := List.pairwise_append.1 h2
    rcases List.mem_append.1 hx with h | h
    · have : x.id < p.id := h4 x.p (List.mem_map.2 ⟨x, h, rfl⟩) p.p (by simp)
      omega
    · have : p.id < x.id := (List.pairwise_cons.1 h3).1 x.p (List.mem_map.2 ⟨x, h, rfl⟩)
      omega
  have h1 : (ts.filter (kpB n rs)).filter (fun x => decide (x.id ≠ p.id)) = l1 ++ l2 := by
    rw [e, List.filter_append, List.filter_cons, if_neg (by simp), List.filter_eq_self.2 (fun x hx => decide_eq_true (hne x (List.mem_append.2 (.inl hx)))), List.filter_eq_self.2 (fun x hx => decide_eq_true (hne x (List.mem_append.2 (.inr hx))))]
  rw [← h1, List.filter_filter]
  refine List.filter_congr fun x hx => ?_
  unfold kpB
  by_cases hne : x.id = p.id
  · have hxp := p_inj hr hx hp hne
    subst hxp
    rw [hk, decide_eq_false (out_erase hf hn)]
    simp
  · have h3 : decide (x.id ∈ (rs.eraseIdx j).map Pk.id) = decide (x.id ∈ rs.map Pk.id) := decide_eq_decide.2 (in_erase hf hne)
    rw [h3]
    simp [hne]
theorem kp_all : ts.filter (kpB n ts) = ts := List.filter_eq_self.2 fun x hx => by unfold kpB; rw [decide_eq_true (List.mem_map.2 ⟨x, hx, rfl⟩), Bool.or_true]
theorem kp_none : ts.filter (kpB n []) = fkL n ts := List.filter_congr fun x _ => by unfold kpB; simp
theorem ids_nodup (hr : (ts.map Pk.p).Pairwise (fun x y => x.1 < y.1)) : (ts.map Pk.id).Nodup := by
  rw [List.pairwise_map] at hr
  rw [List.Nodup, List.pairwise_map]
  exact hr.imp fun h e => by have : _ < _ := h; simp only [Pk.p] at this; omega
theorem pents_nil (h : pents rs = []) : rs = [] := List.map_eq_nil_iff.1 h
end

theorem en56 : Enters Tryz.prog 56 := enters_of Tryz.func56 rfl (by kernel_rfl)
theorem en57 : Enters Tryz.prog 57 := enters_of Tryz.func57 rfl (by kernel_rfl)

set_option maxRecDepth 100000 in
set_option maxHeartbeats 4000000 in
theorem fg1_ (key : Int) (v : MV) (s : Six) (bx : Nat) (n : Int) (w : World) (hb : Blk w bx [.int .i64 n] 3) :
    Calls Tryz.prog 57 #[.int .i64 (key), .agg #[.int .i64 (((mkC v s)).kind), .int .i64 (((mkC v s)).frm), .int .i64 (((mkC v s)).to), .int .i64 (((mkC v s)).req), .string (((mkC v s)).key), .slice (s.ea) (v.ent.length) (s.ec), .slice (s.ma) (v.mrk.length) (s.mc), .slice (s.ca) (v.cl.length) (s.cc), .int .i64 (((mkC v s)).owner), .int .i64 (((mkC v s)).part), .int .i64 (((mkC v s)).n), .int .i64 ((((mkC v s)).ring).parts), .int .i64 ((((mkC v s)).ring).copies), .int .i64 ((((mkC v s)).ring).spots), .slice (s.ba) (v.mem.length) (s.bc), .slice (s.pa) (v.pe.length) (s.pc), .slice (s.sa) (v.su.length) (s.sc)], .pointer (some ⟨bx, 0, none⟩)] w (Ret (fun r w' => r = .bool (!fkB n v) ∧ Ext w w')) := by
  refine calls_run (n := 16) Tryz.func57 rfl rfl rfl ?_
  refine Run.seq ?_
  refine Run.region ?_
  refine RL.st rfl <| St1.box (v := .agg #[.int .i64 (((mkC v s)).kind), .int .i64 (((mkC v s)).frm), .int .i64 (((mkC v s)).to), .int .i64 (((mkC v s)).req), .string (((mkC v s)).key), .slice (s.ea) (v.ent.length) (s.ec), .slice (s.ma) (v.mrk.length) (s.mc), .slice (s.ca) (v.cl.length) (s.cc), .int .i64 (((mkC v s)).owner), .int .i64 (((mkC v s)).part), .int .i64 (((mkC v s)).n), .int .i64 ((((mkC v s)).ring).parts), .int .i64 ((((mkC v s)).ring).copies), .int .i64 ((((mkC v s)).ring).spots), .slice (s.ba) (v.mem.length) (s.bc), .slice (s.pa) (v.pe.length) (s.pc), .slice (s.sa) (v.su.length) (s.sc)]) rfl ?_
  intro b_1 w_2 hl_5 hb_4 K_3
  replace hb_4 : Blk w_2 b_1 [.int .i64 (((mkC v s)).kind), .int .i64 (((mkC v s)).frm), .int .i64 (((mkC v s)).to), .int .i64 (((mkC v s)).req), .string (((mkC v s)).key), .slice (s.ea) (v.ent.length) (s.ec), .slice (s.ma) (v.mrk.length) (s.mc), .slice (s.ca) (v.cl.length) (s.cc), .int .i64 (((mkC v s)).owner), .int .i64 (((mkC v s)).part), .int .i64 (((mkC v s)).n), .int .i64 ((((mkC v s)).ring).parts), .int .i64 ((((mkC v s)).ring).copies), .int .i64 ((((mkC v s)).ring).spots), .slice (s.ba) (v.mem.length) (s.bc), .slice (s.pa) (v.pe.length) (s.pc), .slice (s.sa) (v.su.length) (s.sc)] 57 := hb_4
  have ne_6 : bx < b_1 := Nat.lt_of_lt_of_le hb.lt hl_5
  have : w.heap.size ≤ b_1 := hl_5
  clear hl_5
  replace hb := hb.ext K_3
  have K0 := (K_3 : Ext w _)
  refine RL.val (x_assignB rfl) ?_
  refine RL.nil ?_
  refine Run.seq ?_
  refine Run.region ?_
  refine RL.val (x_fld (o' := 1) Tryz.underlying57 rfl ty3 rfl rfl rfl) ?_
  refine RL.val (litI (c := v.frm) (x_ld (v := .int .i64 (((mkC v s)).frm)) ty3 rfl rfl (hb_4.cl.field (i := 1) rfl)) rfl) ?_
  refine RL.val (x_ld (v := .int .i64 (n)) ty3 rfl rfl (hb.cl.field (i := 0) rfl)) ?_
  refine RL.val (x_eqI rfl rfl) ?_
  refine RL.val (x_moveB rfl) ?_
  refine RL.gval (wantedF rfl rfl rfl rfl) (fun hg => (x_fld (o' := 2) Tryz.underlying57 rfl ty3 rfl rfl rfl)) ?_
  refine RL.gval (wantedF rfl rfl rfl rfl) (fun hg => (litI (c := v.to) (x_ld (v := .int .i64 (((mkC v s)).to)) ty3 (gvr hg) rfl (hb_4.cl.field (i := 2) rfl)) rfl)) ?_
  refine RL.gval (wantedF rfl rfl rfl rfl) (fun hg => (x_ld (v := .int .i64 (n)) ty3 rfl rfl (hb.cl.field (i := 0) rfl))) ?_
  refine RL.gval (wantedF rfl rfl rfl rfl) (fun hg => (x_eqI (gvr hg) (gvr hg))) ?_
  refine RL.val (x_or rfl rfl rfl) ?_
  refine RL.val (x_assignB rfl) ?_
  refine RL.nil ?_
  refine Run.ret1 (v := .bool ((v.frm == n) || (v.to == n))) Tryz.func57 rfl rfl ?_
  exact ⟨_, rfl, congrArg Value.bool fg_not, K0⟩

set_option maxRecDepth 100000 in
set_option maxHeartbeats 4000000 in
theorem delF_ (m : Nat) (ts : List Pk) (bx : Nat) (n : Int) (w : World) (hP : MapAt w m (pents ts)) (hb : Blk w bx [.int .i64 n] 3) (hne : ¬ one m bx) (hr : (ts.map Pk.p).Pairwise (fun x y => x.1 < y.1)) :
    Calls Tryz.prog 56 #[.map (some m), .func (.func 57) #[] #[.pointer (some ⟨bx, 0, none⟩)]] w (Ret (fun r w' => r = .tuple #[] ∧ MapAt w' m (pents (fkL n ts)) ∧ Keeps (one m) w w')) := by
  refine calls_run (n := 19) Tryz.func56 rfl rfl rfl ?_
  refine Run.seq ?_
  refine Run.region ?_
  refine RL.val (x_moveM rfl) ?_
  refine RL.st rfl <| St1.rangeMap Tryz.underlying61 rfl hP ?_
  intro r_1 w_2 hl_3 hI_4 K_5
  have pr_6 : ∀ q_, one r_1 q_ → ¬ one m q_ := apartNew (ge_one hl_3) hP.own_lt
  have pr_7 : ¬ one r_1 bx := notNew (ge_one hl_3) hb.lt
  have pg_8 : ∀ q_, one r_1 q_ → q_ < w.heap.size → (one m) q_ := fun q_ h hlt => absurd (Nat.le_trans (Nat.le_refl _) ((ge_one hl_3) q_ h)) (by omega)
  have pw_9 : ∀ q_, one r_1 q_ → w.heap.size ≤ q_ := fun q_ h => Nat.le_trans (Nat.le_refl _) ((ge_one hl_3) q_ h)
  clear hl_3
  replace hP := hP.ext K_5
  replace hb := hb.ext K_5
  have K0 := (K_5 : Ext w _).to (S := (one m))
  refine RL.nil ?_
  rw [← kp_all (ts := ts) (n := n)] at hP
  refine Run.block ?_
  refine Run.loop (ι := Nat) (fun k ρ' w' => ∃ rs : List Pk, ∃ la : Option (Int × Value), Holds ρ' [(0, .map (some m)), (1, .func (.func 57) #[] #[.pointer (some ⟨bx, 0, none⟩)]), (7, .pointer (some ⟨r_1, 0, none⟩))] ∧ Keeps (one m) w w' ∧ (Blk w' bx [.int .i64 (n)] 3) ∧ (IterAt w' r_1 m (pents rs) la) ∧ (MapAt w' m (pents (ts.filter (kpB n rs)))) ∧ (¬ one r_1 bx) ∧ (∀ q_, one r_1 q_ → ¬ one m q_) ∧ (∀ q_, one r_1 q_ → q_ < w.heap.size → (one m) q_) ∧ (¬ one m bx) ∧ (∀ q_, one m q_ → q_ < w.heap.size → (one m) q_) ∧ (k = rs.length) ∧ (∀ x ∈ rs, x ∈ ts) ∧ ((rs.map Pk.id).Nodup)) (fun k => k) ts.length ?_ ?_
  · refine ⟨ts, none, ⟨rfl, rfl, rfl, trivial⟩, K0, hb, hI_4, hP, pr_7, pr_6, pg_8, hne, (fun q_ h_ _ => h_), ?_, ?_, ?_⟩
    · rfl
    · exact fun x h => h
    · exact ids_nodup hr
  clear hP hb hI_4
  clear K0
  rintro k ρ_19 w_10 ⟨rs, la, hH_11, K0, hb, hO_12, hO_13, pr_14, pr_15, pr_16, pr_17, pr_18, hk, hsub, hnd⟩ ih1
  obtain ⟨ρ₀, rfl⟩ := hH_11.ex
  clear hH_11
  refine Run.seq ?_
  refine Run.region ?_
  refine RL.st rfl <| St1.nextMap rfl hO_12 ?_ ?_
  · intro h0_20
    refine RL.val (x_extract rfl rfl) ?_
    refine RL.nil ?_
    refine Run.seq ?_
    refine Run.condF rfl ?_
    refine Run.exit rfl ?_
    refine Run.fin0 Tryz.func56 rfl ?_
    have hrs := pents_nil h0_20
    subst hrs
    rw [kp_none] at hO_13
    exact ⟨_, rfl, rfl, hO_13, K0⟩
  · intro jx ka_21 kv_22 w_23 h0_24 hI_25 K_26
    obtain ⟨p, hf, rfl, rfl⟩ := pents_get h0_24
    rw [pents_erase] at hI_25
    have hvk := trivial
    replace hb := hb.keep K_26 pr_14
    replace hO_13 := hO_13.keepO K_26 (fun q_ h1 h2 => pr_15 q_ h2 h1)
    replace K0 := K0.trans K_26 (fun x hlt hx => pr_16 x hx hlt)
    replace hO_12 := hI_25
    clear hI_25
    refine RL.val (x_extract rfl rfl) ?_
    refine RL.nil ?_
    refine Run.seq ?_
    refine Run.condT rfl ?_
    refine Run.skip ?_
    refine Run.block ?_
    refine Run.seq ?_
    refine Run.region ?_
    refine RL.val (x_entry rfl hO_12) ?_
    refine RL.val (x_extract rfl rfl) ?_
    refine RL.val (x_extract rfl rfl) ?_
    refine RL.st rfl <| St1.alloc ty57 ?_
    intro b_27 w_28 hl_31 hb_30 K_29
    replace hb_30 : Blk w_28 b_27 [.int .i64 (0), .int .i64 (0), .int .i64 (0), .int .i64 (0), .string (⟨#[]⟩), .slice (none) (0) (0), .slice (none) (0) (0), .slice (none) (0) (0), .int .i64 (0), .int .i64 (0), .int .i64 (0), .int .i64 (0), .int .i64 (0), .int .i64 (0), .slice (none) (0) (0), .slice (none) (0) (0), .slice (none) (0) (0)] 57 := hb_30
    have ne_32 : bx < b_27 := Nat.lt_of_lt_of_le hb.lt hl_31
    have pr_33 : ¬ one r_1 b_27 := fun h => absurd (hO_12.own_lt _ h) (by omega)
    have pr_34 : ¬ one m b_27 := fun h => absurd (hO_13.own_lt _ h) (by omega)
    have : w.heap.size ≤ b_27 := Nat.le_trans K0.size hl_31
    clear hl_31
    replace hb := hb.ext K_29
    replace hO_12 := hO_12.ext K_29
    replace hO_13 := hO_13.ext K_29
    replace K0 := K0.ext K_29
    refine RL.val (x_assignI rfl) ?_
    refine RL.st rfl <| St1.store (v := .agg #[.int .i64 (((mkC p.v p.s)).kind), .int .i64 (((mkC p.v p.s)).frm), .int .i64 (((mkC p.v p.s)).to), .int .i64 (((mkC p.v p.s)).req), .string (((mkC p.v p.s)).key), .slice (p.s.ea) (p.v.ent.length) (p.s.ec), .slice (p.s.ma) (p.v.mrk.length) (p.s.mc), .slice (p.s.ca) (p.v.cl.length) (p.s.cc), .int .i64 (((mkC p.v p.s)).owner), .int .i64 (((mkC p.v p.s)).part), .int .i64 (((mkC p.v p.s)).n), .int .i64 ((((mkC p.v p.s)).ring).parts), .int .i64 ((((mkC p.v p.s)).ring).copies), .int .i64 ((((mkC p.v p.s)).ring).spots), .slice (p.s.ba) (p.v.mem.length) (p.s.bc), .slice (p.s.pa) (p.v.pe.length) (p.s.pc), .slice (p.s.sa) (p.v.su.length) (p.s.sc)]) ty57 rfl rfl rfl (by simp [Value.cells, Value.oneCell']) hb_30 (by simp) ?_
    intro w_35 hb_30_ K_36
    have hb_30' : Blk w_35 b_27 [.int .i64 (((mkC p.v p.s)).kind), .int .i64 (((mkC p.v p.s)).frm), .int .i64 (((mkC p.v p.s)).to), .int .i64 (((mkC p.v p.s)).req), .string (((mkC p.v p.s)).key), .slice (p.s.ea) (p.v.ent.length) (p.s.ec), .slice (p.s.ma) (p.v.mrk.length) (p.s.mc), .slice (p.s.ca) (p.v.cl.length) (p.s.cc), .int .i64 (((mkC p.v p.s)).owner), .int .i64 (((mkC p.v p.s)).part), .int .i64 (((mkC p.v p.s)).n), .int .i64 ((((mkC p.v p.s)).ring).parts), .int .i64 ((((mkC p.v p.s)).ring).copies), .int .i64 ((((mkC p.v p.s)).ring).spots), .slice (p.s.ba) (p.v.mem.length) (p.s.bc), .slice (p.s.pa) (p.v.pe.length) (p.s.pc), .slice (p.s.sa) (p.v.su.length) (p.s.sc)] 57 := hb_30_
    clear hb_30_
    replace hb := hb.keep K_36 (by simp only [one]; omega)
    replace hO_12 := hO_12.keepO K_36 (fun q_ hq_ eq_ => pr_33 (by simp only [one] at eq_; rw [← eq_]; exact hq_)) (fun q_ hq_ eq_ => pr_34 (by simp only [one] at eq_; rw [← eq_]; exact hq_))
    replace hO_13 := hO_13.keepO K_36 (fun q_ hq_ eq_ => pr_34 (by simp only [one] at eq_; rw [← eq_]; exact hq_))
    replace K0 := K0.trans K_36 (fun x hlt hx => absurd hlt (by simp only [one] at hx; omega))
    replace hb_30 := hb_30'
    clear hb_30'
    refine RL.nil ?_
    refine Run.seq ?_
    refine Run.region ?_
    refine RL.val (x_moveF rfl) ?_
    refine RL.val (x_moveI rfl) ?_
    refine RL.val (x_lds (cs := #[.int .i64 (((mkC p.v p.s)).kind), .int .i64 (((mkC p.v p.s)).frm), .int .i64 (((mkC p.v p.s)).to), .int .i64 (((mkC p.v p.s)).req), .string (((mkC p.v p.s)).key), .slice (p.s.ea) (p.v.ent.length) (p.s.ec), .slice (p.s.ma) (p.v.mrk.length) (p.s.mc), .slice (p.s.ca) (p.v.cl.length) (p.s.cc), .int .i64 (((mkC p.v p.s)).owner), .int .i64 (((mkC p.v p.s)).part), .int .i64 (((mkC p.v p.s)).n), .int .i64 ((((mkC p.v p.s)).ring).parts), .int .i64 ((((mkC p.v p.s)).ring).copies), .int .i64 ((((mkC p.v p.s)).ring).spots), .slice (p.s.ba) (p.v.mem.length) (p.s.bc), .slice (p.s.pa) (p.v.pe.length) (p.s.pc), .slice (p.s.sa) (p.v.su.length) (p.s.sc)]) ty57 rfl rfl (hb_30.cl.drop 0 17)) ?_
    refine RL.st rfl <| St1.callV (vals := [.int .i64 (p.id), .agg #[.int .i64 (((mkC p.v p.s)).kind), .int .i64 (((mkC p.v p.s)).frm), .int .i64 (((mkC p.v p.s)).to), .int .i64 (((mkC p.v p.s)).req), .string (((mkC p.v p.s)).key), .slice (p.s.ea) (p.v.ent.length) (p.s.ec), .slice (p.s.ma) (p.v.mrk.length) (p.s.mc), .slice (p.s.ca) (p.v.cl.length) (p.s.cc), .int .i64 (((mkC p.v p.s)).owner), .int .i64 (((mkC p.v p.s)).part), .int .i64 (((mkC p.v p.s)).n), .int .i64 ((((mkC p.v p.s)).ring).parts), .int .i64 ((((mkC p.v p.s)).ring).copies), .int .i64 ((((mkC p.v p.s)).ring).spots), .slice (p.s.ba) (p.v.mem.length) (p.s.bc), .slice (p.s.pa) (p.v.pe.length) (p.s.pc), .slice (p.s.sa) (p.v.su.length) (p.s.sc)], .pointer (some ⟨bx, 0, none⟩)]) en57 rfl rfl (fg1_ _ p.v p.s bx n _ hb) ?_
    rintro _ w_37 ⟨rfl, K_38⟩
    replace hb := hb.ext K_38
    replace hO_12 := hO_12.ext K_38
    replace hO_13 := hO_13.ext K_38
    replace hb_30 := hb_30.ext K_38
    replace K0 := K0.ext K_38
    refine RL.nil ?_
    refine Run.cond rfl (fun hc16 => ?_) (fun hc16 => ?_)
    · try simp only [br] at hc16
      refine Run.region ?_
      refine RL.val (x_moveM rfl) ?_
      refine RL.val (x_moveI rfl) ?_
      refine RL.st rfl <| St1.deleteI Tryz.underlying61 Tryz.underlying3 rfl rfl hO_13 hO_12 ?_
      intro w_39 hM_40 hI_42 K_41
      replace hM_40 : MapAt w_39 m (pents (ts.filter (kpB n (rs.eraseIdx jx)))) := (kp_del hr hf hsub hnd (by simpa using hc16) ▸ hM_40)
      replace hb := hb.keep K_41 pr_17
      replace hb_30 := hb_30.keep K_41 pr_34
      replace K0 := K0.trans K_41 (fun x hlt hx => pr_18 x hx hlt)
      replace hO_13 := hM_40
      clear hM_40
      replace hO_12 := hI_42
      clear hI_42
      refine RL.nil ?_
      refine Run.inBlock ?_
      refine ih1 ((rs.eraseIdx jx).length) _ _ ?_ (by rw [hk]; exact erase_ltP hf)
      refine ⟨rs.eraseIdx jx, _, ⟨rfl, rfl, rfl, trivial⟩, K0, hb, hO_12, hO_13, pr_14, pr_15, pr_16, pr_17, pr_18, ?_, ?_, ?_⟩
      · rfl
      · exact fun f h => hsub f (List.mem_of_mem_eraseIdx h)
      · rw [map_eraseI]; exact hnd.sublist (List.eraseIdx_sublist _ _)
    · try simp only [br] at hc16
      refine Run.skip ?_
      refine Run.inBlock ?_
      rw [kp_keep hr hf hsub (by simpa using hc16)] at hO_13
      refine ih1 ((rs.eraseIdx jx).length) _ _ ?_ (by rw [hk]; exact erase_ltP hf)
      refine ⟨rs.eraseIdx jx, _, ⟨rfl, rfl, rfl, trivial⟩, K0, hb, hO_12, hO_13, pr_14, pr_15, pr_16, pr_17, pr_18, ?_, ?_, ?_⟩
      · rfl
      · exact fun f h => hsub f (List.mem_of_mem_eraseIdx h)
      · rw [map_eraseI]; exact hnd.sublist (List.eraseIdx_sublist _ _)

set_option maxRecDepth 100000 in
set_option maxHeartbeats 4000000 in
theorem forget_ (b pm cm : Nat) (nodes id now : Int) (ts : List Pk) (cs : List LinkC) (n : Int) (w : World) (hD : WldO w b pm cm nodes id now ts cs) :
    Calls Tryz.prog 29 #[.pointer (some ⟨b, 0, none⟩), .int .i64 (n)] w (Ret (fun v w' => v = .int .i64 ((ts.length : Int) - ((fkL n ts).length : Int)) ∧ WldO w' b pm cm nodes id now (fkL n ts) cs ∧ Keeps (wF b pm cm) w w')) := by
  obtain ⟨hB, hP, hC, hM, hn1, hn2, hn3, hsb, hsp, hsc, hok⟩ := hD
  obtain ⟨hno1, hno2⟩ := hok.nodes
  obtain ⟨hnw1, hnw2⟩ := hok.now
  have hid0 := hok.id0
  have hl5 := hok.len
  rw [p_len] at hl5
  have hpl := pents_len ts
  refine calls_run (n := 27) Tryz.func29 rfl rfl rfl ?_
  refine Run.seq ?_
  refine Run.region ?_
  refine RL.st rfl <| St1.box (v := .int .i64 (n)) rfl ?_
  intro b_1 w_2 hl_5 hb_4 K_3
  replace hb_4 : Blk w_2 b_1 [.int .i64 (n)] 3 := hb_4
  have ne_6 : b < b_1 := Nat.lt_of_lt_of_le hB.lt hl_5
  have pr_7 : ¬ one pm b_1 := fun h => absurd (hP.own_lt _ h) (by omega)
  have pr_8 : ¬ one cm b_1 := fun h => absurd (hC.own_lt _ h) (by omega)
  have pr_9 : ¬ mgsS ts b_1 := fun h => absurd (hM.own_lt _ h) (by omega)
  have : w.heap.size ≤ b_1 := hl_5
  clear hl_5
  replace hB := hB.ext K_3
  replace hP := hP.ext K_3
  replace hC := hC.ext K_3
  replace hM := hM.ext K_3
  have K0 := (K_3 : Ext w _).to (S := (wF b pm cm))
  refine RL.val (x_assignI rfl) ?_
  refine RL.nil ?_
  refine Run.seq ?_
  refine Run.seq ?_
  refine Run.region ?_
  refine RL.val (x_moveP rfl) ?_
  refine RL.st rfl <| St1.call (vals := [.pointer (some ⟨b, 0, none⟩)]) en31 rfl (made_ b pm cm nodes id now ts cs _ (⟨hB, hP, hC, hM, hn1, hn2, hn3, hsb, (fun h_ => (mp_of hsp) _ h_ rfl), (fun h_ => (mp_of hsc) _ h_ rfl), hok⟩ : WldO _ b pm cm nodes id now ts cs)) ?_
  rintro _ _ ⟨rfl, rfl⟩
  refine RL.val (x_not (b := true) rfl) ?_
  refine RL.nil ?_
  refine Run.condF rfl ?_
  refine Run.skip ?_
  refine Run.seq ?_
  refine Run.region ?_
  refine RL.val (x_moveP rfl) ?_
  refine RL.val (x_nilCheck rfl) ?_
  refine RL.val (x_fld (o' := 1) Tryz.underlying64 rfl ty61 rfl rfl rfl) ?_
  refine RL.val (x_ld (v := .map (some pm)) ty61 rfl rfl (hB.cl.field (i := 1) rfl)) ?_
  refine RL.val (x_lenMap Tryz.underlying61 rfl hP) ?_
  refine RL.val (x_assignI rfl) ?_
  refine RL.nil ?_
  refine Run.seq ?_
  refine Run.region ?_
  refine RL.val (x_moveP rfl) ?_
  refine RL.val (x_nilCheck rfl) ?_
  refine RL.val (x_fld (o' := 1) Tryz.underlying64 rfl ty61 rfl rfl rfl) ?_
  refine RL.val (x_ld (v := .map (some pm)) ty61 rfl rfl (hB.cl.field (i := 1) rfl)) ?_
  refine RL.val (x_mkFunc (a := []) (c := [.pointer (some ⟨b_1, 0, none⟩)]) rfl rfl) ?_
  refine RL.st rfl <| St1.call (vals := [.map (some pm), .func (.func 57) #[] #[.pointer (some ⟨b_1, 0, none⟩)]]) en56 rfl (delF_ pm ts b_1 n _ hP hb_4 pr_7 hok.rise) ?_
  rintro _ w_11 ⟨rfl, hM_10, K_12⟩
  replace hB := hB.keep K_12 hn1
  replace hC := hC.keepO K_12 (cp_of hn3)
  replace hM := hM.keepO K_12 (mp_of hsp)
  replace hb_4 := hb_4.keep K_12 pr_7
  replace K0 := K0.trans K_12 (fun x hlt hx => (fun q_ h_ _ => wf_p q_ h_) x hx hlt)
  replace hP := hM_10
  clear hM_10
  refine RL.nil ?_
  refine Run.seq ?_
  have hl1 := pents_len (fkL n ts)
  have hfl := fk_len (ks := ts) (n := n)
  refine Run.region ?_
  refine RL.val (x_moveI rfl) ?_
  refine RL.val (x_moveP rfl) ?_
  refine RL.val (x_nilCheck rfl) ?_
  refine RL.val (x_fld (o' := 1) Tryz.underlying64 rfl ty61 rfl rfl rfl) ?_
  refine RL.val (x_ld (v := .map (some pm)) ty61 rfl rfl (hB.cl.field (i := 1) rfl)) ?_
  refine RL.val (x_lenMap Tryz.underlying61 rfl hP) ?_
  refine RL.val (x_sub rfl rfl (by omega) (by omega)) ?_
  refine RL.val (x_assignI rfl) ?_
  refine RL.nil ?_
  refine Run.ret1 (v := .int .i64 ((((pents ts).length : Nat) : Int) - (((pents (fkL n ts)).length : Nat) : Int))) Tryz.func29 rfl rfl ?_
  have hl2 := pents_len (fkL n ts)
  exact ⟨_, rfl, congrArg (Value.int .i64) (by omega), ⟨hB, hP, hC, hM.sub fk_sub, hn1, hn2, hn3, (fun h_ => hsb (mgs_sub fk_sub _ h_)), (fun h_ => hsp (mgs_sub fk_sub _ h_)), (fun h_ => hsc (mgs_sub fk_sub _ h_)), hok.sub (fk_sub.map _)⟩, K0⟩

theorem forgetD {w : World} {b : Nat} {F : Nat → Prop} {nodes id now : Int} {pv : List (Int × MV)} {cs : List LinkC} (h : WldAt w b F nodes id now pv cs) (i : Int) : Calls Tryz.prog 29 #[.pointer (some ⟨b, 0, none⟩), .int .i64 i] w (Ret (WStep b F w (.int .i64 (fgN i pv)) nodes id now (fgP i pv) cs)) := by
  obtain ⟨pm, cm, ts, rfl, rfl, hD⟩ := h
  refine ret_mono (forget_ b pm cm nodes id now ts cs i w hD) fun v w' h => ?_
  obtain ⟨rfl, h1, K⟩ := h
  have e : fgN i (ts.map Pk.p) = (ts.length : Int) - ((fkL i ts).length : Int) := by unfold fgN; rw [← fg_map, List.length_map, List.length_map]
  rw [e]
  exact ⟨_, rfl, ⟨pm, cm, _, rfl, fg_map.symm, h1⟩, wS_sub (mgs_sub fk_sub), K.mono fun q _ h => wF_wS q h⟩

end Go.Proofs.YtdlaoncjiolckaaGreat
