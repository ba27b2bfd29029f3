/-
  Layer 22: copies of messages; Packets; samePackets.
-/
import Derived.Test.YtdlaoncjiolckaaGreatRows
import Derived.Test.YtdlaoncjiolckaaGreatWk
namespace Go.Proofs.YtdlaoncjiolckaaGreat
attribute [local irreducible] St1 RL RA RT RT1 Run

abbrev kC (i : Int) (v : MV) (s : Six) : PacketC := ⟨i, mkC v s⟩
def Pk.c (p : Pk) : MsgC := mkC p.v p.s
def Pk.k (p : Pk) : PacketC := kC p.id p.v p.s
section
variable {ks us ts : List Pk} {i : Nat} {j : Int} {v : MV} {s : Six} {p q : Pk} {w : World}
theorem pk_get {x : PacketC} (h : (ks.map Pk.k)[i]? = some x) : ∃ p, ks[i]? = some p ∧ x = kC p.id p.v p.s ∧ (ks.map Pk.p)[i]? = some p.p := by
  rw [List.getElem?_map, Option.map_eq_some_iff] at h
  obtain ⟨p, hp, rfl⟩ := h
  exact ⟨p, hp, rfl, by rw [List.getElem?_map, hp]; rfl⟩
theorem c_get {x : MsgC} (h : (ks.map Pk.c)[i]? = some x) : ∃ p, ks[i]? = some p ∧ x = mkC p.v p.s ∧ (ks.map Pk.v)[i]? = some p.v := by
  rw [List.getElem?_map, Option.map_eq_some_iff] at h
  obtain ⟨p, hp, rfl⟩ := h
  exact ⟨p, hp, rfl, by rw [List.getElem?_map, hp]; rfl⟩
theorem id_get {x : Int} (h : ((pents ts).map (·.1))[i]? = some x) : ∃ p, ts[i]? = some p ∧ p ∈ ts ∧ x = p.id ∧ (ts.map Pk.p)[i]? = some p.p := by
  rw [pents, List.map_map, List.getElem?_map, Option.map_eq_some_iff] at h
  obtain ⟨p, hp, rfl⟩ := h
  exact ⟨p, hp, List.mem_of_getElem? hp, rfl, by rw [List.getElem?_map, hp]; rfl⟩
theorem ids_rise {nodes id now : Int} (h : WOk nodes id now (ts.map Pk.p)) : ((pents ts).map (·.1)).Pairwise (· < ·) := by
  have := h.rise
  rw [List.pairwise_map] at this
  rw [pents, List.map_map, List.pairwise_map]
  exact this
theorem ids_b {nodes id now : Int} (h : WOk nodes id now (ts.map Pk.p)) (hid : id ≤ 1000000000) : ∀ p ∈ pents ts, -9223372036854775808 ≤ p.1 ∧ p.1 ≤ 9223372036854775807 := fun x hx => by
  obtain ⟨y, hy, rfl⟩ := List.mem_map.1 hx
  have := h.le y.p (List.mem_map.2 ⟨y, hy, rfl⟩)
  have h1 : 1 ≤ y.id := this.1
  have h2 : y.id ≤ id := this.2
  exact ⟨by show _ ≤ y.id; omega, by show y.id ≤ _; omega⟩
theorem pair_eq : (decide (p.id = q.id) && decide (p.v = q.v)) = decide (p.p = q.p) := by
  rw [Bool.eq_iff_iff]
  simp only [Bool.and_eq_true, decide_eq_true_eq, Pk.p, Prod.mk.injEq]
theorem take_eq {a b : List (Int × MV)} {x : Int × MV} (h : a.take i = b.take i) (h1 : a[i]? = some x) (h2 : b[i]? = some x) : a.take (i + 1) = b.take (i + 1) := by
  obtain ⟨k1, e1⟩ := List.getElem?_eq_some_iff.1 h1
  obtain ⟨k2, e2⟩ := List.getElem?_eq_some_iff.1 h2
  rw [List.take_succ_eq_append_getElem k1, List.take_succ_eq_append_getElem k2, h, e1, e2]
theorem ne_take {a b : List (Int × MV)} {x y : Int × MV} (h1 : a[i]? = some x) (h2 : b[i]? = some y) (hn : ¬ x = y) : ¬ a = b := fun e => by
  subst e; rw [h1] at h2; exact hn (Option.some.inj h2)
theorem mgs_nil : ∀ q, ¬ mgsS [] q := fun _ ⟨_, h, _⟩ => absurd h (by simp)
theorem any_succ {l : List MV} {x a : MV} (hx : l[i]? = some x) : ((l.take (i + 1)).any fun y => decide (y = a)) = (((l.take i).any fun y => decide (y = a)) || decide (x = a)) := by
  obtain ⟨h, rfl⟩ := List.getElem?_eq_some_iff.1 hx
  rw [List.take_succ_eq_append_getElem h, List.any_append]
  simp
end

theorem en43 : Enters Tryz.prog 43 := enters_of Tryz.func43 rfl (by kernel_rfl)
theorem en69 : Enters Tryz.prog 69 := enters_of Tryz.func69 rfl (by kernel_rfl)
theorem en70 : Enters Tryz.prog 70 := enters_of Tryz.func70 rfl (by kernel_rfl)
theorem en78 : Enters Tryz.prog 78 := enters_of Tryz.func78 rfl (by kernel_rfl)

set_option maxRecDepth 100000 in
set_option maxHeartbeats 4000000 in
theorem context_ (v : MV) (s : Six) (w : World) (hR : SixR w s v) (hv : VOk v) :
    Calls Tryz.prog 78 #[.agg #[.slice (s.ma) (v.mrk.length) (s.mc), .slice (s.ca) (v.cl.length) (s.cc)]] w (Ret (fun r w' => ∃ a0 c0 a1 c1, r = .agg #[.slice a0 v.mrk.length c0, .slice a1 v.cl.length c1] ∧ OwnSl w' 120 a0 c0 v.mrk ∧ OwnSl w' 116 a1 c1 v.cl ∧ (∀ q, own a0 q → ¬ own a1 q) ∧ (∀ q, own a0 q → w.heap.size ≤ q) ∧ (∀ q, own a1 q → w.heap.size ≤ q) ∧ Ext w w')) := by
  have hv0 := hv
  obtain ⟨hv1, hv2, hv3, hv4, hv5, hv6⟩ := hv
  refine calls_run (n := 10) Tryz.func78 rfl rfl rfl ?_
  refine Run.seq ?_
  refine Run.region ?_
  refine RL.st rfl <| St1.box (v := .agg #[.slice (s.ma) (v.mrk.length) (s.mc), .slice (s.ca) (v.cl.length) (s.cc)]) rfl ?_
  intro b_1 w_2 hl_5 hb_4 K_3
  replace hb_4 : Blk w_2 b_1 [.slice (s.ma) (v.mrk.length) (s.mc), .slice (s.ca) (v.cl.length) (s.cc)] 48 := hb_4
  have pr_6 : ¬ rdS s v b_1 := fun h => absurd (hR.own_lt _ h) (by omega)
  have : w.heap.size ≤ b_1 := hl_5
  clear hl_5
  replace hR := hR.ext K_3
  have K0 := (K_3 : Ext w _)
  refine RL.st rfl <| St1.alloc ty48 ?_
  intro b_7 w_8 hl_11 hb_10 K_9
  replace hb_10 : Blk w_8 b_7 [.slice (none) (0) (0), .slice (none) (0) (0)] 48 := hb_10
  have ne_12 : b_1 < b_7 := Nat.lt_of_lt_of_le hb_4.lt hl_11
  have pr_13 : ¬ rdS s v b_7 := fun h => absurd (hR.own_lt _ h) (by omega)
  have : w.heap.size ≤ b_7 := Nat.le_trans K0.size hl_11
  clear hl_11
  replace hR := hR.ext K_9
  replace hb_4 := hb_4.ext K_9
  replace K0 := K0.ext K_9
  refine RL.nil ?_
  refine Run.seq ?_
  refine Run.drawT [7] (m := 8) (by kernel_rfl) rfl ?_
  intro w_14 K_15
  replace hR := hR.ext K_15
  replace hb_4 := hb_4.ext K_15
  replace hb_10 := hb_10.ext K_15
  replace K0 := K0.ext K_15
  refine ⟨fun w' => Blk w' b_1 [.slice (s.ma) (v.mrk.length) (s.mc), .slice (s.ca) (v.cl.length) (s.cc)] 48 ∧ True, ?_⟩
  refine RT.takeP (v := .pointer (some ⟨b_1, 0, none⟩)) 0 rfl (by kernel_rfl) (.inr ⟨hb_4, trivial⟩) (fun _ => (x_fld (o' := 0) Tryz.underlying48 rfl ty45 rfl rfl rfl)) ?_
  refine RT.take (v := .slice (s.ma) (v.mrk.length) (s.mc)) 1 rfl (by kernel_rfl) ⟨hb_4, trivial⟩ (by rintro _ ⟨hb_4, -⟩; exact (x_ld (v := .slice (s.ma) (v.mrk.length) (s.mc)) ty45 rfl rfl (hb_4.cl.field (i := 0) rfl))) ?_
  refine RT.takeP (v := .pointer (some ⟨b_1, 1, none⟩)) 3 rfl (by kernel_rfl) (.inr ⟨hb_4, trivial⟩) (fun _ => (x_fld (o' := 1) Tryz.underlying48 rfl ty46 rfl rfl rfl)) ?_
  refine RT.take (v := .slice (s.ca) (v.cl.length) (s.cc)) 4 rfl (by kernel_rfl) ⟨hb_4, trivial⟩ (by rintro _ ⟨hb_4, -⟩; exact (x_ld (v := .slice (s.ca) (v.cl.length) (s.cc)) ty46 rfl rfl (hb_4.cl.field (i := 1) rfl))) ?_
  refine RT.st 2 rfl (by kernel_rfl) rfl <| St1.call (vals := [.slice (s.ma) (v.mrk.length) (s.mc)]) en64 rfl (clone_mrk _ _ _ _ (hR).mrk (by omega)) ?_
  rintro _ w_18 ⟨a_16, c_17, rfl, ho_19, hg_20, K_21⟩
  have pr_22 : ∀ q_, own a_16 q_ → ¬ rdS s v q_ := apartNew hg_20 hR.own_lt
  have pr_23 : ¬ own a_16 b_1 := notNew hg_20 hb_4.lt
  have pr_24 : ¬ own a_16 b_7 := notNew hg_20 hb_10.lt
  have pg_25 : ∀ q_, own a_16 q_ → w.heap.size ≤ q_ := fun q_ h => Nat.le_trans K0.size (hg_20 q_ h)
  clear hg_20
  replace hR := hR.ext K_21
  replace hb_4 := hb_4.ext K_21
  replace hb_10 := hb_10.ext K_21
  replace K0 := K0.ext K_21
  refine ⟨.inr ⟨hb_4, trivial⟩, ?_⟩
  refine RT.st 5 rfl (by kernel_rfl) rfl <| St1.call (vals := [.slice (s.ca) (v.cl.length) (s.cc)]) en65 rfl (clone_cl _ _ _ _ (hR).cl (by omega)) ?_
  rintro _ w_28 ⟨a_26, c_27, rfl, ho_29, hg_30, K_31⟩
  have pr_32 : ∀ q_, own a_26 q_ → ¬ rdS s v q_ := apartNew hg_30 hR.own_lt
  have pr_33 : ¬ own a_26 b_1 := notNew hg_30 hb_4.lt
  have pr_34 : ¬ own a_26 b_7 := notNew hg_30 hb_10.lt
  have pr_35 : ∀ q_, own a_26 q_ → ¬ own a_16 q_ := apartNew hg_30 ho_19.own_lt
  have pg_36 : ∀ q_, own a_26 q_ → w.heap.size ≤ q_ := fun q_ h => Nat.le_trans K0.size (hg_30 q_ h)
  clear hg_30
  replace hR := hR.ext K_31
  replace hb_4 := hb_4.ext K_31
  replace hb_10 := hb_10.ext K_31
  replace ho_19 := ho_19.ext K_31
  replace K0 := K0.ext K_31
  refine ⟨.inr ⟨hb_4, trivial⟩, ?_⟩
  refine RT.takeP (v := .agg #[.slice (a_16) (v.mrk.length) (c_17), .slice (a_26) (v.cl.length) (c_27)]) 6 rfl (by kernel_rfl) (.inr ⟨hb_4, trivial⟩) (fun _ => (x_build (cells := #[.slice (a_16) (v.mrk.length) (c_17), .slice (a_26) (v.cl.length) (c_27)]) (by kernel_rfl))) ?_
  refine RT.st 7 rfl (by kernel_rfl) rfl <| St1.store (v := .agg #[.slice (a_16) (v.mrk.length) (c_17), .slice (a_26) (v.cl.length) (c_27)]) ty48 rfl rfl rfl (by simp [Value.cells, Value.oneCell']) hb_10 (by simp) ?_
  intro w_37 hb_10_ K_38
  have hb_10' : Blk w_37 b_7 [.slice (a_16) (v.mrk.length) (c_17), .slice (a_26) (v.cl.length) (c_27)] 48 := hb_10_
  clear hb_10_
  replace hR := hR.keepO K_38 (fun q_ hq_ eq_ => pr_13 (by simp only [one] at eq_; rw [← eq_]; exact hq_))
  replace hb_4 := hb_4.keep K_38 (by simp only [one]; omega)
  replace ho_19 := ho_19.keepO K_38 (fun q_ hq_ eq_ => pr_24 (by simp only [one] at eq_; rw [← eq_]; exact hq_))
  replace ho_29 := ho_29.keepO K_38 (fun q_ hq_ eq_ => pr_34 (by simp only [one] at eq_; rw [← eq_]; exact hq_))
  replace K0 := K0.new K_38 (fun x hx => by simp only [one] at hx; omega)
  replace hb_10 := hb_10'
  clear hb_10'
  refine ⟨.inl (by kernel_rfl), ?_⟩
  refine RT.done (by kernel_rfl) ?_
  refine Run.retC (cs := #[.slice (a_16) (v.mrk.length) (c_17), .slice (a_26) (v.cl.length) (c_27)]) Tryz.func78 rfl ty48 rfl rfl hb_10.cl ?_
  exact ⟨_, rfl, a_16, c_17, a_26, c_27, rfl, ho_19, ho_29, (fun q_ h1 h2 => pr_35 q_ h2 h1), pg_25, pg_36, K0⟩

set_option maxRecDepth 100000 in
set_option maxHeartbeats 4000000 in
theorem cart_ (v : MV) (s : Six) (w : World) (hR : SixR w s v) (hv : VOk v) :
    Calls Tryz.prog 69 #[.agg #[.slice (s.ea) (v.ent.length) (s.ec), .slice (s.ma) (v.mrk.length) (s.mc), .slice (s.ca) (v.cl.length) (s.cc)]] w (Ret (fun r w' => ∃ a0 c0 a1 c1 a2 c2, r = .agg #[.slice a0 v.ent.length c0, .slice a1 v.mrk.length c1, .slice a2 v.cl.length c2] ∧ OwnSl w' 118 a0 c0 v.ent ∧ OwnSl w' 120 a1 c1 v.mrk ∧ OwnSl w' 116 a2 c2 v.cl ∧ (∀ q, own a0 q → ¬ own a1 q) ∧ (∀ q, own a0 q → ¬ own a2 q) ∧ (∀ q, own a1 q → ¬ own a2 q) ∧ (∀ q, own a0 q → w.heap.size ≤ q) ∧ (∀ q, own a1 q → w.heap.size ≤ q) ∧ (∀ q, own a2 q → w.heap.size ≤ q) ∧ Ext w w')) := by
  have hv0 := hv
  obtain ⟨hv1, hv2, hv3, hv4, hv5, hv6⟩ := hv
  refine calls_run (n := 10) Tryz.func69 rfl rfl rfl ?_
  refine Run.seq ?_
  refine Run.region ?_
  refine RL.st rfl <| St1.box (v := .agg #[.slice (s.ea) (v.ent.length) (s.ec), .slice (s.ma) (v.mrk.length) (s.mc), .slice (s.ca) (v.cl.length) (s.cc)]) rfl ?_
  intro b_1 w_2 hl_5 hb_4 K_3
  replace hb_4 : Blk w_2 b_1 [.slice (s.ea) (v.ent.length) (s.ec), .slice (s.ma) (v.mrk.length) (s.mc), .slice (s.ca) (v.cl.length) (s.cc)] 50 := hb_4
  have pr_6 : ¬ rdS s v b_1 := fun h => absurd (hR.own_lt _ h) (by omega)
  have : w.heap.size ≤ b_1 := hl_5
  clear hl_5
  replace hR := hR.ext K_3
  have K0 := (K_3 : Ext w _)
  refine RL.st rfl <| St1.alloc ty50 ?_
  intro b_7 w_8 hl_11 hb_10 K_9
  replace hb_10 : Blk w_8 b_7 [.slice (none) (0) (0), .slice (none) (0) (0), .slice (none) (0) (0)] 50 := hb_10
  have ne_12 : b_1 < b_7 := Nat.lt_of_lt_of_le hb_4.lt hl_11
  have pr_13 : ¬ rdS s v b_7 := fun h => absurd (hR.own_lt _ h) (by omega)
  have : w.heap.size ≤ b_7 := Nat.le_trans K0.size hl_11
  clear hl_11
  replace hR := hR.ext K_9
  replace hb_4 := hb_4.ext K_9
  replace K0 := K0.ext K_9
  refine RL.nil ?_
  refine Run.seq ?_
  refine Run.drawT [7] (m := 8) (by kernel_rfl) rfl ?_
  intro w_14 K_15
  replace hR := hR.ext K_15
  replace hb_4 := hb_4.ext K_15
  replace hb_10 := hb_10.ext K_15
  replace K0 := K0.ext K_15
  refine ⟨fun w' => Blk w' b_1 [.slice (s.ea) (v.ent.length) (s.ec), .slice (s.ma) (v.mrk.length) (s.mc), .slice (s.ca) (v.cl.length) (s.cc)] 50 ∧ True, ?_⟩
  refine RT.takeP (v := .pointer (some ⟨b_1, 0, none⟩)) 0 rfl (by kernel_rfl) (.inr ⟨hb_4, trivial⟩) (fun _ => (x_fld (o' := 0) Tryz.underlying50 rfl ty44 rfl rfl rfl)) ?_
  refine RT.take (v := .slice (s.ea) (v.ent.length) (s.ec)) 1 rfl (by kernel_rfl) ⟨hb_4, trivial⟩ (by rintro _ ⟨hb_4, -⟩; exact (x_ld (v := .slice (s.ea) (v.ent.length) (s.ec)) ty44 rfl rfl (hb_4.cl.field (i := 0) rfl))) ?_
  refine RT.takeP (v := .pointer (some ⟨b_1, 1, none⟩)) 3 rfl (by kernel_rfl) (.inr ⟨hb_4, trivial⟩) (fun _ => (x_fld (o' := 1) Tryz.underlying50 rfl ty48 rfl rfl rfl)) ?_
  refine RT.take (v := .agg #[.slice (s.ma) (v.mrk.length) (s.mc), .slice (s.ca) (v.cl.length) (s.cc)]) 4 rfl (by kernel_rfl) ⟨hb_4, trivial⟩ (by rintro _ ⟨hb_4, -⟩; exact (x_lds (cs := #[.slice (s.ma) (v.mrk.length) (s.mc), .slice (s.ca) (v.cl.length) (s.cc)]) ty48 rfl rfl (hb_4.cl.drop 1 2))) ?_
  refine RT.st 2 rfl (by kernel_rfl) rfl <| St1.call (vals := [.slice (s.ea) (v.ent.length) (s.ec)]) en63 rfl (clone_ent _ _ _ _ (hR).ent (by omega)) ?_
  rintro _ w_18 ⟨a_16, c_17, rfl, ho_19, hg_20, K_21⟩
  have pr_22 : ∀ q_, own a_16 q_ → ¬ rdS s v q_ := apartNew hg_20 hR.own_lt
  have pr_23 : ¬ own a_16 b_1 := notNew hg_20 hb_4.lt
  have pr_24 : ¬ own a_16 b_7 := notNew hg_20 hb_10.lt
  have pg_25 : ∀ q_, own a_16 q_ → w.heap.size ≤ q_ := fun q_ h => Nat.le_trans K0.size (hg_20 q_ h)
  clear hg_20
  replace hR := hR.ext K_21
  replace hb_4 := hb_4.ext K_21
  replace hb_10 := hb_10.ext K_21
  replace K0 := K0.ext K_21
  refine ⟨.inr ⟨hb_4, trivial⟩, ?_⟩
  refine RT.st 5 rfl (by kernel_rfl) rfl <| St1.call (vals := [.agg #[.slice (s.ma) (v.mrk.length) (s.mc), .slice (s.ca) (v.cl.length) (s.cc)]]) en78 rfl (context_ v s _ hR (by assumption)) ?_
  rintro _ w_32 ⟨a_26, c_28, a_27, c_29, rfl, ho_30, ho_31, pr_34, hg_35, hg_36, K_33⟩
  have pr_37 : ∀ q_, own a_26 q_ → ¬ rdS s v q_ := apartNew hg_35 hR.own_lt
  have pr_38 : ¬ own a_26 b_1 := notNew hg_35 hb_4.lt
  have pr_39 : ¬ own a_26 b_7 := notNew hg_35 hb_10.lt
  have pr_40 : ∀ q_, own a_26 q_ → ¬ own a_16 q_ := apartNew hg_35 ho_19.own_lt
  have pg_41 : ∀ q_, own a_26 q_ → w.heap.size ≤ q_ := fun q_ h => Nat.le_trans K0.size (hg_35 q_ h)
  have pr_42 : ∀ q_, own a_27 q_ → ¬ rdS s v q_ := apartNew hg_36 hR.own_lt
  have pr_43 : ¬ own a_27 b_1 := notNew hg_36 hb_4.lt
  have pr_44 : ¬ own a_27 b_7 := notNew hg_36 hb_10.lt
  have pr_45 : ∀ q_, own a_27 q_ → ¬ own a_16 q_ := apartNew hg_36 ho_19.own_lt
  have pg_46 : ∀ q_, own a_27 q_ → w.heap.size ≤ q_ := fun q_ h => Nat.le_trans K0.size (hg_36 q_ h)
  clear hg_35 hg_36
  replace hR := hR.ext K_33
  replace hb_4 := hb_4.ext K_33
  replace hb_10 := hb_10.ext K_33
  replace ho_19 := ho_19.ext K_33
  replace K0 := K0.ext K_33
  refine ⟨.inr ⟨hb_4, trivial⟩, ?_⟩
  refine RT.takeP (v := .agg #[.slice (a_16) (v.ent.length) (c_17), .slice (a_26) (v.mrk.length) (c_28), .slice (a_27) (v.cl.length) (c_29)]) 6 rfl (by kernel_rfl) (.inr ⟨hb_4, trivial⟩) (fun _ => (x_build (cells := #[.slice (a_16) (v.ent.length) (c_17), .slice (a_26) (v.mrk.length) (c_28), .slice (a_27) (v.cl.length) (c_29)]) (by kernel_rfl))) ?_
  refine RT.st 7 rfl (by kernel_rfl) rfl <| St1.store (v := .agg #[.slice (a_16) (v.ent.length) (c_17), .slice (a_26) (v.mrk.length) (c_28), .slice (a_27) (v.cl.length) (c_29)]) ty50 rfl rfl rfl (by simp [Value.cells, Value.oneCell']) hb_10 (by simp) ?_
  intro w_47 hb_10_ K_48
  have hb_10' : Blk w_47 b_7 [.slice (a_16) (v.ent.length) (c_17), .slice (a_26) (v.mrk.length) (c_28), .slice (a_27) (v.cl.length) (c_29)] 50 := hb_10_
  clear hb_10_
  replace hR := hR.keepO K_48 (fun q_ hq_ eq_ => pr_13 (by simp only [one] at eq_; rw [← eq_]; exact hq_))
  replace hb_4 := hb_4.keep K_48 (by simp only [one]; omega)
  replace ho_19 := ho_19.keepO K_48 (fun q_ hq_ eq_ => pr_24 (by simp only [one] at eq_; rw [← eq_]; exact hq_))
  replace ho_30 := ho_30.keepO K_48 (fun q_ hq_ eq_ => pr_39 (by simp only [one] at eq_; rw [← eq_]; exact hq_))
  replace ho_31 := ho_31.keepO K_48 (fun q_ hq_ eq_ => pr_44 (by simp only [one] at eq_; rw [← eq_]; exact hq_))
  replace K0 := K0.new K_48 (fun x hx => by simp only [one] at hx; omega)
  replace hb_10 := hb_10'
  clear hb_10'
  refine ⟨.inl (by kernel_rfl), ?_⟩
  refine RT.done (by kernel_rfl) ?_
  refine Run.retC (cs := #[.slice (a_16) (v.ent.length) (c_17), .slice (a_26) (v.mrk.length) (c_28), .slice (a_27) (v.cl.length) (c_29)]) Tryz.func69 rfl ty50 rfl rfl hb_10.cl ?_
  exact ⟨_, rfl, a_16, c_17, a_26, c_28, a_27, c_29, rfl, ho_19, ho_30, ho_31, (fun q_ h1 h2 => pr_40 q_ h2 h1), (fun q_ h1 h2 => pr_45 q_ h2 h1), pr_34, pg_25, pg_41, pg_46, K0⟩

set_option maxRecDepth 100000 in
set_option maxHeartbeats 4000000 in
theorem ring_ (v : MV) (s : Six) (w : World) (hR : SixR w s v) (hv : VOk v) :
    Calls Tryz.prog 70 #[.agg #[.int .i64 (((mkC v s).ring).parts), .int .i64 (((mkC v s).ring).copies), .int .i64 (((mkC v s).ring).spots), .slice (s.ba) (v.mem.length) (s.bc)]] w (Ret (fun r w' => ∃ a0 c0, r = .agg #[.int .i64 (((mkC v s).ring).parts), .int .i64 (((mkC v s).ring).copies), .int .i64 (((mkC v s).ring).spots), .slice a0 v.mem.length c0] ∧ OwnSl w' 85 a0 c0 v.mem ∧ (∀ q, own a0 q → w.heap.size ≤ q) ∧ Ext w w')) := by
  have hv0 := hv
  obtain ⟨hv1, hv2, hv3, hv4, hv5, hv6⟩ := hv
  refine calls_run (n := 8) Tryz.func70 rfl rfl rfl ?_
  refine Run.seq ?_
  refine Run.region ?_
  refine RL.st rfl <| St1.box (v := .agg #[.int .i64 (((mkC v s).ring).parts), .int .i64 (((mkC v s).ring).copies), .int .i64 (((mkC v s).ring).spots), .slice (s.ba) (v.mem.length) (s.bc)]) rfl ?_
  intro b_1 w_2 hl_5 hb_4 K_3
  replace hb_4 : Blk w_2 b_1 [.int .i64 (((mkC v s).ring).parts), .int .i64 (((mkC v s).ring).copies), .int .i64 (((mkC v s).ring).spots), .slice (s.ba) (v.mem.length) (s.bc)] 53 := hb_4
  have pr_6 : ¬ rdS s v b_1 := fun h => absurd (hR.own_lt _ h) (by omega)
  have : w.heap.size ≤ b_1 := hl_5
  clear hl_5
  replace hR := hR.ext K_3
  have K0 := (K_3 : Ext w _)
  refine RL.st rfl <| St1.alloc ty53 ?_
  intro b_7 w_8 hl_11 hb_10 K_9
  replace hb_10 : Blk w_8 b_7 [.int .i64 (0), .int .i64 (0), .int .i64 (0), .slice (none) (0) (0)] 53 := hb_10
  have ne_12 : b_1 < b_7 := Nat.lt_of_lt_of_le hb_4.lt hl_11
  have pr_13 : ¬ rdS s v b_7 := fun h => absurd (hR.own_lt _ h) (by omega)
  have : w.heap.size ≤ b_7 := Nat.le_trans K0.size hl_11
  clear hl_11
  replace hR := hR.ext K_9
  replace hb_4 := hb_4.ext K_9
  replace K0 := K0.ext K_9
  refine RL.nil ?_
  refine Run.seq ?_
  refine Run.region ?_
  refine RL.val (x_fld (o' := 3) Tryz.underlying53 rfl ty51 rfl rfl rfl) ?_
  refine RL.val (x_ld (v := .slice (s.ba) (v.mem.length) (s.bc)) ty51 rfl rfl (hb_4.cl.field (i := 3) rfl)) ?_
  refine RL.st rfl <| St1.call (vals := [.slice (s.ba) (v.mem.length) (s.bc)]) en66 rfl (clone_mem _ _ _ _ (hR).mem (by omega)) ?_
  rintro _ w_16 ⟨a_14, c_15, rfl, ho_17, hg_18, K_19⟩
  have pr_20 : ∀ q_, own a_14 q_ → ¬ rdS s v q_ := apartNew hg_18 hR.own_lt
  have pr_21 : ¬ own a_14 b_1 := notNew hg_18 hb_4.lt
  have pr_22 : ¬ own a_14 b_7 := notNew hg_18 hb_10.lt
  have pg_23 : ∀ q_, own a_14 q_ → w.heap.size ≤ q_ := fun q_ h => Nat.le_trans K0.size (hg_18 q_ h)
  clear hg_18
  replace hR := hR.ext K_19
  replace hb_4 := hb_4.ext K_19
  replace hb_10 := hb_10.ext K_19
  replace K0 := K0.ext K_19
  refine RL.val (x_fld (o' := 3) Tryz.underlying53 rfl ty51 rfl rfl rfl) ?_
  refine RL.st rfl <| St1.store (v := .slice (a_14) (v.mem.length) (c_15)) ty51 rfl rfl rfl (by simp [Value.cells, Value.oneCell']) hb_4 (by simp) ?_
  intro w_24 hb_4_ K_25
  have hb_4' : Blk w_24 b_1 [.int .i64 (((mkC v s).ring).parts), .int .i64 (((mkC v s).ring).copies), .int .i64 (((mkC v s).ring).spots), .slice (a_14) (v.mem.length) (c_15)] 53 := hb_4_
  clear hb_4_
  replace hR := hR.keepO K_25 (fun q_ hq_ eq_ => pr_6 (by simp only [one] at eq_; rw [← eq_]; exact hq_))
  replace hb_10 := hb_10.keep K_25 (by simp only [one]; omega)
  replace ho_17 := ho_17.keepO K_25 (fun q_ hq_ eq_ => pr_21 (by simp only [one] at eq_; rw [← eq_]; exact hq_))
  replace K0 := K0.new K_25 (fun x hx => by simp only [one] at hx; omega)
  replace hb_4 := hb_4'
  clear hb_4'
  refine RL.nil ?_
  refine Run.seq ?_
  refine Run.region ?_
  refine RL.val (x_lds (cs := #[.int .i64 (((mkC v s).ring).parts), .int .i64 (((mkC v s).ring).copies), .int .i64 (((mkC v s).ring).spots), .slice (a_14) (v.mem.length) (c_15)]) ty53 rfl rfl (hb_4.cl.drop 0 4)) ?_
  refine RL.st rfl <| St1.store (v := .agg #[.int .i64 (((mkC v s).ring).parts), .int .i64 (((mkC v s).ring).copies), .int .i64 (((mkC v s).ring).spots), .slice (a_14) (v.mem.length) (c_15)]) ty53 rfl rfl rfl (by simp [Value.cells, Value.oneCell']) hb_10 (by simp) ?_
  intro w_26 hb_10_ K_27
  have hb_10' : Blk w_26 b_7 [.int .i64 (((mkC v s).ring).parts), .int .i64 (((mkC v s).ring).copies), .int .i64 (((mkC v s).ring).spots), .slice (a_14) (v.mem.length) (c_15)] 53 := hb_10_
  clear hb_10_
  replace hR := hR.keepO K_27 (fun q_ hq_ eq_ => pr_13 (by simp only [one] at eq_; rw [← eq_]; exact hq_))
  replace hb_4 := hb_4.keep K_27 (by simp only [one]; omega)
  replace ho_17 := ho_17.keepO K_27 (fun q_ hq_ eq_ => pr_22 (by simp only [one] at eq_; rw [← eq_]; exact hq_))
  replace K0 := K0.new K_27 (fun x hx => by simp only [one] at hx; omega)
  replace hb_10 := hb_10'
  clear hb_10'
  refine RL.nil ?_
  refine Run.retC (cs := #[.int .i64 (((mkC v s).ring).parts), .int .i64 (((mkC v s).ring).copies), .int .i64 (((mkC v s).ring).spots), .slice (a_14) (v.mem.length) (c_15)]) Tryz.func70 rfl ty53 rfl rfl hb_10.cl ?_
  exact ⟨_, rfl, a_14, c_15, rfl, ho_17, pg_23, K0⟩

set_option maxRecDepth 100000 in
set_option maxHeartbeats 4000000 in
theorem msg_ (v : MV) (s : Six) (w : World) (hR : SixR w s v) (hv : VOk v) :
    Calls Tryz.prog 43 #[.agg #[.int .i64 (((mkC v s)).kind), .int .i64 (((mkC v s)).frm), .int .i64 (((mkC v s)).to), .int .i64 (((mkC v s)).req), .string (((mkC v s)).key), .slice (s.ea) (v.ent.length) (s.ec), .slice (s.ma) (v.mrk.length) (s.mc), .slice (s.ca) (v.cl.length) (s.cc), .int .i64 (((mkC v s)).owner), .int .i64 (((mkC v s)).part), .int .i64 (((mkC v s)).n), .int .i64 ((((mkC v s)).ring).parts), .int .i64 ((((mkC v s)).ring).copies), .int .i64 ((((mkC v s)).ring).spots), .slice (s.ba) (v.mem.length) (s.bc), .slice (s.pa) (v.pe.length) (s.pc), .slice (s.sa) (v.su.length) (s.sc)]] w (Ret (fun r w' => ∃ s', r = .agg #[.int .i64 (((mkC v s')).kind), .int .i64 (((mkC v s')).frm), .int .i64 (((mkC v s')).to), .int .i64 (((mkC v s')).req), .string (((mkC v s')).key), .slice (s'.ea) (v.ent.length) (s'.ec), .slice (s'.ma) (v.mrk.length) (s'.mc), .slice (s'.ca) (v.cl.length) (s'.cc), .int .i64 (((mkC v s')).owner), .int .i64 (((mkC v s')).part), .int .i64 (((mkC v s')).n), .int .i64 ((((mkC v s')).ring).parts), .int .i64 ((((mkC v s')).ring).copies), .int .i64 ((((mkC v s')).ring).spots), .slice (s'.ba) (v.mem.length) (s'.bc), .slice (s'.pa) (v.pe.length) (s'.pc), .slice (s'.sa) (v.su.length) (s'.sc)] ∧ SixO w' s' v ∧ SixA s' ∧ (∀ q, ownS s' q → w.heap.size ≤ q) ∧ Ext w w')) := by
  have hv0 := hv
  obtain ⟨hv1, hv2, hv3, hv4, hv5, hv6⟩ := hv
  refine calls_run (n := 20) Tryz.func43 rfl rfl rfl ?_
  refine Run.seq ?_
  refine Run.region ?_
  refine RL.st rfl <| St1.box (v := .agg #[.int .i64 (((mkC v s)).kind), .int .i64 (((mkC v s)).frm), .int .i64 (((mkC v s)).to), .int .i64 (((mkC v s)).req), .string (((mkC v s)).key), .slice (s.ea) (v.ent.length) (s.ec), .slice (s.ma) (v.mrk.length) (s.mc), .slice (s.ca) (v.cl.length) (s.cc), .int .i64 (((mkC v s)).owner), .int .i64 (((mkC v s)).part), .int .i64 (((mkC v s)).n), .int .i64 ((((mkC v s)).ring).parts), .int .i64 ((((mkC v s)).ring).copies), .int .i64 ((((mkC v s)).ring).spots), .slice (s.ba) (v.mem.length) (s.bc), .slice (s.pa) (v.pe.length) (s.pc), .slice (s.sa) (v.su.length) (s.sc)]) rfl ?_
  intro b_1 w_2 hl_5 hb_4 K_3
  replace hb_4 : Blk w_2 b_1 [.int .i64 (((mkC v s)).kind), .int .i64 (((mkC v s)).frm), .int .i64 (((mkC v s)).to), .int .i64 (((mkC v s)).req), .string (((mkC v s)).key), .slice (s.ea) (v.ent.length) (s.ec), .slice (s.ma) (v.mrk.length) (s.mc), .slice (s.ca) (v.cl.length) (s.cc), .int .i64 (((mkC v s)).owner), .int .i64 (((mkC v s)).part), .int .i64 (((mkC v s)).n), .int .i64 ((((mkC v s)).ring).parts), .int .i64 ((((mkC v s)).ring).copies), .int .i64 ((((mkC v s)).ring).spots), .slice (s.ba) (v.mem.length) (s.bc), .slice (s.pa) (v.pe.length) (s.pc), .slice (s.sa) (v.su.length) (s.sc)] 57 := hb_4
  have pr_6 : ¬ rdS s v b_1 := fun h => absurd (hR.own_lt _ h) (by omega)
  have : w.heap.size ≤ b_1 := hl_5
  clear hl_5
  replace hR := hR.ext K_3
  have K0 := (K_3 : Ext w _)
  refine RL.st rfl <| St1.alloc ty57 ?_
  intro b_7 w_8 hl_11 hb_10 K_9
  replace hb_10 : Blk w_8 b_7 [.int .i64 (0), .int .i64 (0), .int .i64 (0), .int .i64 (0), .string (⟨#[]⟩), .slice (none) (0) (0), .slice (none) (0) (0), .slice (none) (0) (0), .int .i64 (0), .int .i64 (0), .int .i64 (0), .int .i64 (0), .int .i64 (0), .int .i64 (0), .slice (none) (0) (0), .slice (none) (0) (0), .slice (none) (0) (0)] 57 := hb_10
  have ne_12 : b_1 < b_7 := Nat.lt_of_lt_of_le hb_4.lt hl_11
  have pr_13 : ¬ rdS s v b_7 := fun h => absurd (hR.own_lt _ h) (by omega)
  have : w.heap.size ≤ b_7 := Nat.le_trans K0.size hl_11
  clear hl_11
  replace hR := hR.ext K_9
  replace hb_4 := hb_4.ext K_9
  replace K0 := K0.ext K_9
  refine RL.nil ?_
  refine Run.seq ?_
  refine Run.drawT [7] (m := 10) (by kernel_rfl) rfl ?_
  intro w_14 K_15
  replace hR := hR.ext K_15
  replace hb_4 := hb_4.ext K_15
  replace hb_10 := hb_10.ext K_15
  replace K0 := K0.ext K_15
  refine ⟨fun w' => Blk w' b_1 [.int .i64 (((mkC v s)).kind), .int .i64 (((mkC v s)).frm), .int .i64 (((mkC v s)).to), .int .i64 (((mkC v s)).req), .string (((mkC v s)).key), .slice (s.ea) (v.ent.length) (s.ec), .slice (s.ma) (v.mrk.length) (s.mc), .slice (s.ca) (v.cl.length) (s.cc), .int .i64 (((mkC v s)).owner), .int .i64 (((mkC v s)).part), .int .i64 (((mkC v s)).n), .int .i64 ((((mkC v s)).ring).parts), .int .i64 ((((mkC v s)).ring).copies), .int .i64 ((((mkC v s)).ring).spots), .slice (s.ba) (v.mem.length) (s.bc), .slice (s.pa) (v.pe.length) (s.pc), .slice (s.sa) (v.su.length) (s.sc)] 57 ∧ True, ?_⟩
  refine RT.takeP (v := .pointer (some ⟨b_1, 5, none⟩)) 0 rfl (by kernel_rfl) (.inr ⟨hb_4, trivial⟩) (fun _ => (x_fld (o' := 5) Tryz.underlying57 rfl ty50 rfl rfl rfl)) ?_
  refine RT.take (v := .agg #[.slice (s.ea) (v.ent.length) (s.ec), .slice (s.ma) (v.mrk.length) (s.mc), .slice (s.ca) (v.cl.length) (s.cc)]) 1 rfl (by kernel_rfl) ⟨hb_4, trivial⟩ (by rintro _ ⟨hb_4, -⟩; exact (x_lds (cs := #[.slice (s.ea) (v.ent.length) (s.ec), .slice (s.ma) (v.mrk.length) (s.mc), .slice (s.ca) (v.cl.length) (s.cc)]) ty50 rfl rfl (hb_4.cl.drop 5 3))) ?_
  refine RT.takeP (v := .pointer (some ⟨b_1, 11, none⟩)) 3 rfl (by kernel_rfl) (.inr ⟨hb_4, trivial⟩) (fun _ => (x_fld (o' := 11) Tryz.underlying57 rfl ty53 rfl rfl rfl)) ?_
  refine RT.take (v := .agg #[.int .i64 ((((mkC v s)).ring).parts), .int .i64 ((((mkC v s)).ring).copies), .int .i64 ((((mkC v s)).ring).spots), .slice (s.ba) (v.mem.length) (s.bc)]) 4 rfl (by kernel_rfl) ⟨hb_4, trivial⟩ (by rintro _ ⟨hb_4, -⟩; exact (x_lds (cs := #[.int .i64 ((((mkC v s)).ring).parts), .int .i64 ((((mkC v s)).ring).copies), .int .i64 ((((mkC v s)).ring).spots), .slice (s.ba) (v.mem.length) (s.bc)]) ty53 rfl rfl (hb_4.cl.drop 11 4))) ?_
  refine RT.st 2 rfl (by kernel_rfl) rfl <| St1.call (vals := [.agg #[.slice (s.ea) (v.ent.length) (s.ec), .slice (s.ma) (v.mrk.length) (s.mc), .slice (s.ca) (v.cl.length) (s.cc)]]) en69 rfl (cart_ v s _ hR (by assumption)) ?_
  rintro _ w_25 ⟨a_16, c_19, a_17, c_20, a_18, c_21, rfl, ho_22, ho_23, ho_24, pr_27, pr_28, pr_29, hg_30, hg_31, hg_32, K_26⟩
  have pr_33 : ∀ q_, own a_16 q_ → ¬ rdS s v q_ := apartNew hg_30 hR.own_lt
  have pr_34 : ¬ own a_16 b_1 := notNew hg_30 hb_4.lt
  have pr_35 : ¬ own a_16 b_7 := notNew hg_30 hb_10.lt
  have pg_36 : ∀ q_, own a_16 q_ → w.heap.size ≤ q_ := fun q_ h => Nat.le_trans K0.size (hg_30 q_ h)
  have pr_37 : ∀ q_, own a_17 q_ → ¬ rdS s v q_ := apartNew hg_31 hR.own_lt
  have pr_38 : ¬ own a_17 b_1 := notNew hg_31 hb_4.lt
  have pr_39 : ¬ own a_17 b_7 := notNew hg_31 hb_10.lt
  have pg_40 : ∀ q_, own a_17 q_ → w.heap.size ≤ q_ := fun q_ h => Nat.le_trans K0.size (hg_31 q_ h)
  have pr_41 : ∀ q_, own a_18 q_ → ¬ rdS s v q_ := apartNew hg_32 hR.own_lt
  have pr_42 : ¬ own a_18 b_1 := notNew hg_32 hb_4.lt
  have pr_43 : ¬ own a_18 b_7 := notNew hg_32 hb_10.lt
  have pg_44 : ∀ q_, own a_18 q_ → w.heap.size ≤ q_ := fun q_ h => Nat.le_trans K0.size (hg_32 q_ h)
  clear hg_30 hg_31 hg_32
  replace hR := hR.ext K_26
  replace hb_4 := hb_4.ext K_26
  replace hb_10 := hb_10.ext K_26
  replace K0 := K0.ext K_26
  refine ⟨.inr ⟨hb_4, trivial⟩, ?_⟩
  refine RT.takeP (v := .pointer (some ⟨b_1, 5, none⟩)) 6 rfl (by kernel_rfl) (.inr ⟨hb_4, trivial⟩) (fun _ => (x_fld (o' := 5) Tryz.underlying57 rfl ty50 rfl rfl rfl)) ?_
  refine RT.st 5 rfl (by kernel_rfl) rfl <| St1.call (vals := [.agg #[.int .i64 ((((mkC v s)).ring).parts), .int .i64 ((((mkC v s)).ring).copies), .int .i64 ((((mkC v s)).ring).spots), .slice (s.ba) (v.mem.length) (s.bc)]]) en70 rfl (ring_ v s _ hR (by assumption)) ?_
  rintro _ w_48 ⟨a_45, c_46, rfl, ho_47, hg_50, K_49⟩
  have pr_51 : ∀ q_, own a_45 q_ → ¬ rdS s v q_ := apartNew hg_50 hR.own_lt
  have pr_52 : ¬ own a_45 b_1 := notNew hg_50 hb_4.lt
  have pr_53 : ¬ own a_45 b_7 := notNew hg_50 hb_10.lt
  have pr_54 : ∀ q_, own a_45 q_ → ¬ own a_16 q_ := apartNew hg_50 ho_22.own_lt
  have pr_55 : ∀ q_, own a_45 q_ → ¬ own a_17 q_ := apartNew hg_50 ho_23.own_lt
  have pr_56 : ∀ q_, own a_45 q_ → ¬ own a_18 q_ := apartNew hg_50 ho_24.own_lt
  have pg_57 : ∀ q_, own a_45 q_ → w.heap.size ≤ q_ := fun q_ h => Nat.le_trans K0.size (hg_50 q_ h)
  clear hg_50
  replace hR := hR.ext K_49
  replace hb_4 := hb_4.ext K_49
  replace hb_10 := hb_10.ext K_49
  replace ho_22 := ho_22.ext K_49
  replace ho_23 := ho_23.ext K_49
  replace ho_24 := ho_24.ext K_49
  replace K0 := K0.ext K_49
  refine ⟨.inr ⟨hb_4, trivial⟩, ?_⟩
  refine RT.st 7 rfl (by kernel_rfl) rfl <| St1.store (v := .agg #[.slice (a_16) (v.ent.length) (c_19), .slice (a_17) (v.mrk.length) (c_20), .slice (a_18) (v.cl.length) (c_21)]) ty50 rfl rfl rfl (by simp [Value.cells, Value.oneCell']) hb_4 (by simp) ?_
  intro w_58 hb_4_ K_59
  have hb_4' : Blk w_58 b_1 [.int .i64 (((mkC v s)).kind), .int .i64 (((mkC v s)).frm), .int .i64 (((mkC v s)).to), .int .i64 (((mkC v s)).req), .string (((mkC v s)).key), .slice (a_16) (v.ent.length) (c_19), .slice (a_17) (v.mrk.length) (c_20), .slice (a_18) (v.cl.length) (c_21), .int .i64 (((mkC v s)).owner), .int .i64 (((mkC v s)).part), .int .i64 (((mkC v s)).n), .int .i64 ((((mkC v s)).ring).parts), .int .i64 ((((mkC v s)).ring).copies), .int .i64 ((((mkC v s)).ring).spots), .slice (s.ba) (v.mem.length) (s.bc), .slice (s.pa) (v.pe.length) (s.pc), .slice (s.sa) (v.su.length) (s.sc)] 57 := hb_4_
  clear hb_4_
  replace hR := hR.keepO K_59 (fun q_ hq_ eq_ => pr_6 (by simp only [one] at eq_; rw [← eq_]; exact hq_))
  replace hb_10 := hb_10.keep K_59 (by simp only [one]; omega)
  replace ho_22 := ho_22.keepO K_59 (fun q_ hq_ eq_ => pr_34 (by simp only [one] at eq_; rw [← eq_]; exact hq_))
  replace ho_23 := ho_23.keepO K_59 (fun q_ hq_ eq_ => pr_38 (by simp only [one] at eq_; rw [← eq_]; exact hq_))
  replace ho_24 := ho_24.keepO K_59 (fun q_ hq_ eq_ => pr_42 (by simp only [one] at eq_; rw [← eq_]; exact hq_))
  replace ho_47 := ho_47.keepO K_59 (fun q_ hq_ eq_ => pr_52 (by simp only [one] at eq_; rw [← eq_]; exact hq_))
  replace K0 := K0.new K_59 (fun x hx => by simp only [one] at hx; omega)
  replace hb_4 := hb_4'
  clear hb_4'
  refine ⟨.inl (by kernel_rfl), ?_⟩
  refine RT.takeP (v := .pointer (some ⟨b_1, 11, none⟩)) 8 rfl (by kernel_rfl) (.inl (by kernel_rfl)) (fun _ => (x_fld (o' := 11) Tryz.underlying57 rfl ty53 rfl rfl rfl)) ?_
  refine RT.st 9 rfl (by kernel_rfl) rfl <| St1.store (v := .agg #[.int .i64 ((((mkC v s)).ring).parts), .int .i64 ((((mkC v s)).ring).copies), .int .i64 ((((mkC v s)).ring).spots), .slice (a_45) (v.mem.length) (c_46)]) ty53 rfl rfl rfl (by simp [Value.cells, Value.oneCell']) hb_4 (by simp) ?_
  intro w_60 hb_4_ K_61
  have hb_4' : Blk w_60 b_1 [.int .i64 (((mkC v s)).kind), .int .i64 (((mkC v s)).frm), .int .i64 (((mkC v s)).to), .int .i64 (((mkC v s)).req), .string (((mkC v s)).key), .slice (a_16) (v.ent.length) (c_19), .slice (a_17) (v.mrk.length) (c_20), .slice (a_18) (v.cl.length) (c_21), .int .i64 (((mkC v s)).owner), .int .i64 (((mkC v s)).part), .int .i64 (((mkC v s)).n), .int .i64 ((((mkC v s)).ring).parts), .int .i64 ((((mkC v s)).ring).copies), .int .i64 ((((mkC v s)).ring).spots), .slice (a_45) (v.mem.length) (c_46), .slice (s.pa) (v.pe.length) (s.pc), .slice (s.sa) (v.su.length) (s.sc)] 57 := hb_4_
  clear hb_4_
  replace hR := hR.keepO K_61 (fun q_ hq_ eq_ => pr_6 (by simp only [one] at eq_; rw [← eq_]; exact hq_))
  replace hb_10 := hb_10.keep K_61 (by simp only [one]; omega)
  replace ho_22 := ho_22.keepO K_61 (fun q_ hq_ eq_ => pr_34 (by simp only [one] at eq_; rw [← eq_]; exact hq_))
  replace ho_23 := ho_23.keepO K_61 (fun q_ hq_ eq_ => pr_38 (by simp only [one] at eq_; rw [← eq_]; exact hq_))
  replace ho_24 := ho_24.keepO K_61 (fun q_ hq_ eq_ => pr_42 (by simp only [one] at eq_; rw [← eq_]; exact hq_))
  replace ho_47 := ho_47.keepO K_61 (fun q_ hq_ eq_ => pr_52 (by simp only [one] at eq_; rw [← eq_]; exact hq_))
  replace K0 := K0.new K_61 (fun x hx => by simp only [one] at hx; omega)
  replace hb_4 := hb_4'
  clear hb_4'
  refine ⟨.inl (by kernel_rfl), ?_⟩
  refine RT.done (by kernel_rfl) ?_
  refine Run.seq ?_
  refine Run.drawT [7] (m := 10) (by kernel_rfl) rfl ?_
  intro w_62 K_63
  replace hR := hR.ext K_63
  replace hb_4 := hb_4.ext K_63
  replace hb_10 := hb_10.ext K_63
  replace ho_22 := ho_22.ext K_63
  replace ho_23 := ho_23.ext K_63
  replace ho_24 := ho_24.ext K_63
  replace ho_47 := ho_47.ext K_63
  replace K0 := K0.ext K_63
  refine ⟨fun w' => Blk w' b_1 [.int .i64 (((mkC v s)).kind), .int .i64 (((mkC v s)).frm), .int .i64 (((mkC v s)).to), .int .i64 (((mkC v s)).req), .string (((mkC v s)).key), .slice (a_16) (v.ent.length) (c_19), .slice (a_17) (v.mrk.length) (c_20), .slice (a_18) (v.cl.length) (c_21), .int .i64 (((mkC v s)).owner), .int .i64 (((mkC v s)).part), .int .i64 (((mkC v s)).n), .int .i64 ((((mkC v s)).ring).parts), .int .i64 ((((mkC v s)).ring).copies), .int .i64 ((((mkC v s)).ring).spots), .slice (a_45) (v.mem.length) (c_46), .slice (s.pa) (v.pe.length) (s.pc), .slice (s.sa) (v.su.length) (s.sc)] 57 ∧ True, ?_⟩
  refine RT.takeP (v := .pointer (some ⟨b_1, 15, none⟩)) 0 rfl (by kernel_rfl) (.inr ⟨hb_4, trivial⟩) (fun _ => (x_fld (o' := 15) Tryz.underlying57 rfl ty54 rfl rfl rfl)) ?_
  refine RT.take (v := .slice (s.pa) (v.pe.length) (s.pc)) 1 rfl (by kernel_rfl) ⟨hb_4, trivial⟩ (by rintro _ ⟨hb_4, -⟩; exact (x_ld (v := .slice (s.pa) (v.pe.length) (s.pc)) ty54 rfl rfl (hb_4.cl.field (i := 15) rfl))) ?_
  refine RT.takeP (v := .pointer (some ⟨b_1, 16, none⟩)) 3 rfl (by kernel_rfl) (.inr ⟨hb_4, trivial⟩) (fun _ => (x_fld (o' := 16) Tryz.underlying57 rfl ty55 rfl rfl rfl)) ?_
  refine RT.take (v := .slice (s.sa) (v.su.length) (s.sc)) 4 rfl (by kernel_rfl) ⟨hb_4, trivial⟩ (by rintro _ ⟨hb_4, -⟩; exact (x_ld (v := .slice (s.sa) (v.su.length) (s.sc)) ty55 rfl rfl (hb_4.cl.field (i := 16) rfl))) ?_
  refine RT.st 2 rfl (by kernel_rfl) rfl <| St1.call (vals := [.slice (s.pa) (v.pe.length) (s.pc)]) en67 rfl (clone_pe _ _ _ _ (hR).pe (by omega)) ?_
  rintro _ w_66 ⟨a_64, c_65, rfl, ho_67, hg_68, K_69⟩
  have pr_70 : ∀ q_, own a_64 q_ → ¬ rdS s v q_ := apartNew hg_68 hR.own_lt
  have pr_71 : ¬ own a_64 b_1 := notNew hg_68 hb_4.lt
  have pr_72 : ¬ own a_64 b_7 := notNew hg_68 hb_10.lt
  have pr_73 : ∀ q_, own a_64 q_ → ¬ own a_16 q_ := apartNew hg_68 ho_22.own_lt
  have pr_74 : ∀ q_, own a_64 q_ → ¬ own a_17 q_ := apartNew hg_68 ho_23.own_lt
  have pr_75 : ∀ q_, own a_64 q_ → ¬ own a_18 q_ := apartNew hg_68 ho_24.own_lt
  have pr_76 : ∀ q_, own a_64 q_ → ¬ own a_45 q_ := apartNew hg_68 ho_47.own_lt
  have pg_77 : ∀ q_, own a_64 q_ → w.heap.size ≤ q_ := fun q_ h => Nat.le_trans K0.size (hg_68 q_ h)
  clear hg_68
  replace hR := hR.ext K_69
  replace hb_4 := hb_4.ext K_69
  replace hb_10 := hb_10.ext K_69
  replace ho_22 := ho_22.ext K_69
  replace ho_23 := ho_23.ext K_69
  replace ho_24 := ho_24.ext K_69
  replace ho_47 := ho_47.ext K_69
  replace K0 := K0.ext K_69
  refine ⟨.inr ⟨hb_4, trivial⟩, ?_⟩
  refine RT.takeP (v := .pointer (some ⟨b_1, 15, none⟩)) 6 rfl (by kernel_rfl) (.inr ⟨hb_4, trivial⟩) (fun _ => (x_fld (o' := 15) Tryz.underlying57 rfl ty54 rfl rfl rfl)) ?_
  refine RT.st 5 rfl (by kernel_rfl) rfl <| St1.call (vals := [.slice (s.sa) (v.su.length) (s.sc)]) en68 rfl (clone_su _ _ _ _ (hR).su (by omega)) ?_
  rintro _ w_80 ⟨a_78, c_79, rfl, ho_81, hg_82, K_83⟩
  have pr_84 : ∀ q_, own a_78 q_ → ¬ rdS s v q_ := apartNew hg_82 hR.own_lt
  have pr_85 : ¬ own a_78 b_1 := notNew hg_82 hb_4.lt
  have pr_86 : ¬ own a_78 b_7 := notNew hg_82 hb_10.lt
  have pr_87 : ∀ q_, own a_78 q_ → ¬ own a_16 q_ := apartNew hg_82 ho_22.own_lt
  have pr_88 : ∀ q_, own a_78 q_ → ¬ own a_17 q_ := apartNew hg_82 ho_23.own_lt
  have pr_89 : ∀ q_, own a_78 q_ → ¬ own a_18 q_ := apartNew hg_82 ho_24.own_lt
  have pr_90 : ∀ q_, own a_78 q_ → ¬ own a_45 q_ := apartNew hg_82 ho_47.own_lt
  have pr_91 : ∀ q_, own a_78 q_ → ¬ own a_64 q_ := apartNew hg_82 ho_67.own_lt
  have pg_92 : ∀ q_, own a_78 q_ → w.heap.size ≤ q_ := fun q_ h => Nat.le_trans K0.size (hg_82 q_ h)
  clear hg_82
  replace hR := hR.ext K_83
  replace hb_4 := hb_4.ext K_83
  replace hb_10 := hb_10.ext K_83
  replace ho_22 := ho_22.ext K_83
  replace ho_23 := ho_23.ext K_83
  replace ho_24 := ho_24.ext K_83
  replace ho_47 := ho_47.ext K_83
  replace ho_67 := ho_67.ext K_83
  replace K0 := K0.ext K_83
  refine ⟨.inr ⟨hb_4, trivial⟩, ?_⟩
  refine RT.st 7 rfl (by kernel_rfl) rfl <| St1.store (v := .slice (a_64) (v.pe.length) (c_65)) ty54 rfl rfl rfl (by simp [Value.cells, Value.oneCell']) hb_4 (by simp) ?_
  intro w_93 hb_4_ K_94
  have hb_4' : Blk w_93 b_1 [.int .i64 (((mkC v s)).kind), .int .i64 (((mkC v s)).frm), .int .i64 (((mkC v s)).to), .int .i64 (((mkC v s)).req), .string (((mkC v s)).key), .slice (a_16) (v.ent.length) (c_19), .slice (a_17) (v.mrk.length) (c_20), .slice (a_18) (v.cl.length) (c_21), .int .i64 (((mkC v s)).owner), .int .i64 (((mkC v s)).part), .int .i64 (((mkC v s)).n), .int .i64 ((((mkC v s)).ring).parts), .int .i64 ((((mkC v s)).ring).copies), .int .i64 ((((mkC v s)).ring).spots), .slice (a_45) (v.mem.length) (c_46), .slice (a_64) (v.pe.length) (c_65), .slice (s.sa) (v.su.length) (s.sc)] 57 := hb_4_
  clear hb_4_
  replace hR := hR.keepO K_94 (fun q_ hq_ eq_ => pr_6 (by simp only [one] at eq_; rw [← eq_]; exact hq_))
  replace hb_10 := hb_10.keep K_94 (by simp only [one]; omega)
  replace ho_22 := ho_22.keepO K_94 (fun q_ hq_ eq_ => pr_34 (by simp only [one] at eq_; rw [← eq_]; exact hq_))
  replace ho_23 := ho_23.keepO K_94 (fun q_ hq_ eq_ => pr_38 (by simp only [one] at eq_; rw [← eq_]; exact hq_))
  replace ho_24 := ho_24.keepO K_94 (fun q_ hq_ eq_ => pr_42 (by simp only [one] at eq_; rw [← eq_]; exact hq_))
  replace ho_47 := ho_47.keepO K_94 (fun q_ hq_ eq_ => pr_52 (by simp only [one] at eq_; rw [← eq_]; exact hq_))
  replace ho_67 := ho_67.keepO K_94 (fun q_ hq_ eq_ => pr_71 (by simp only [one] at eq_; rw [← eq_]; exact hq_))
  replace ho_81 := ho_81.keepO K_94 (fun q_ hq_ eq_ => pr_85 (by simp only [one] at eq_; rw [← eq_]; exact hq_))
  replace K0 := K0.new K_94 (fun x hx => by simp only [one] at hx; omega)
  replace hb_4 := hb_4'
  clear hb_4'
  refine ⟨.inl (by kernel_rfl), ?_⟩
  refine RT.takeP (v := .pointer (some ⟨b_1, 16, none⟩)) 8 rfl (by kernel_rfl) (.inl (by kernel_rfl)) (fun _ => (x_fld (o' := 16) Tryz.underlying57 rfl ty55 rfl rfl rfl)) ?_
  refine RT.st 9 rfl (by kernel_rfl) rfl <| St1.store (v := .slice (a_78) (v.su.length) (c_79)) ty55 rfl rfl rfl (by simp [Value.cells, Value.oneCell']) hb_4 (by simp) ?_
  intro w_95 hb_4_ K_96
  have hb_4' : Blk w_95 b_1 [.int .i64 (((mkC v s)).kind), .int .i64 (((mkC v s)).frm), .int .i64 (((mkC v s)).to), .int .i64 (((mkC v s)).req), .string (((mkC v s)).key), .slice (a_16) (v.ent.length) (c_19), .slice (a_17) (v.mrk.length) (c_20), .slice (a_18) (v.cl.length) (c_21), .int .i64 (((mkC v s)).owner), .int .i64 (((mkC v s)).part), .int .i64 (((mkC v s)).n), .int .i64 ((((mkC v s)).ring).parts), .int .i64 ((((mkC v s)).ring).copies), .int .i64 ((((mkC v s)).ring).spots), .slice (a_45) (v.mem.length) (c_46), .slice (a_64) (v.pe.length) (c_65), .slice (a_78) (v.su.length) (c_79)] 57 := hb_4_
  clear hb_4_
  replace hR := hR.keepO K_96 (fun q_ hq_ eq_ => pr_6 (by simp only [one] at eq_; rw [← eq_]; exact hq_))
  replace hb_10 := hb_10.keep K_96 (by simp only [one]; omega)
  replace ho_22 := ho_22.keepO K_96 (fun q_ hq_ eq_ => pr_34 (by simp only [one] at eq_; rw [← eq_]; exact hq_))
  replace ho_23 := ho_23.keepO K_96 (fun q_ hq_ eq_ => pr_38 (by simp only [one] at eq_; rw [← eq_]; exact hq_))
  replace ho_24 := ho_24.keepO K_96 (fun q_ hq_ eq_ => pr_42 (by simp only [one] at eq_; rw [← eq_]; exact hq_))
  replace ho_47 := ho_47.keepO K_96 (fun q_ hq_ eq_ => pr_52 (by simp only [one] at eq_; rw [← eq_]; exact hq_))
  replace ho_67 := ho_67.keepO K_96 (fun q_ hq_ eq_ => pr_71 (by simp only [one] at eq_; rw [← eq_]; exact hq_))
  replace ho_81 := ho_81.keepO K_96 (fun q_ hq_ eq_ => pr_85 (by simp only [one] at eq_; rw [← eq_]; exact hq_))
  replace K0 := K0.new K_96 (fun x hx => by simp only [one] at hx; omega)
  replace hb_4 := hb_4'
  clear hb_4'
  refine ⟨.inl (by kernel_rfl), ?_⟩
  refine RT.done (by kernel_rfl) ?_
  refine Run.seq ?_
  refine Run.region ?_
  refine RL.val (x_lds (cs := #[.int .i64 (((mkC v s)).kind), .int .i64 (((mkC v s)).frm), .int .i64 (((mkC v s)).to), .int .i64 (((mkC v s)).req), .string (((mkC v s)).key), .slice (a_16) (v.ent.length) (c_19), .slice (a_17) (v.mrk.length) (c_20), .slice (a_18) (v.cl.length) (c_21), .int .i64 (((mkC v s)).owner), .int .i64 (((mkC v s)).part), .int .i64 (((mkC v s)).n), .int .i64 ((((mkC v s)).ring).parts), .int .i64 ((((mkC v s)).ring).copies), .int .i64 ((((mkC v s)).ring).spots), .slice (a_45) (v.mem.length) (c_46), .slice (a_64) (v.pe.length) (c_65), .slice (a_78) (v.su.length) (c_79)]) ty57 rfl rfl (hb_4.cl.drop 0 17)) ?_
  refine RL.st rfl <| St1.store (v := .agg #[.int .i64 (((mkC v s)).kind), .int .i64 (((mkC v s)).frm), .int .i64 (((mkC v s)).to), .int .i64 (((mkC v s)).req), .string (((mkC v s)).key), .slice (a_16) (v.ent.length) (c_19), .slice (a_17) (v.mrk.length) (c_20), .slice (a_18) (v.cl.length) (c_21), .int .i64 (((mkC v s)).owner), .int .i64 (((mkC v s)).part), .int .i64 (((mkC v s)).n), .int .i64 ((((mkC v s)).ring).parts), .int .i64 ((((mkC v s)).ring).copies), .int .i64 ((((mkC v s)).ring).spots), .slice (a_45) (v.mem.length) (c_46), .slice (a_64) (v.pe.length) (c_65), .slice (a_78) (v.su.length) (c_79)]) ty57 rfl rfl rfl (by simp [Value.cells, Value.oneCell']) hb_10 (by simp) ?_
  intro w_97 hb_10_ K_98
  have hb_10' : Blk w_97 b_7 [.int .i64 (((mkC v s)).kind), .int .i64 (((mkC v s)).frm), .int .i64 (((mkC v s)).to), .int .i64 (((mkC v s)).req), .string (((mkC v s)).key), .slice (a_16) (v.ent.length) (c_19), .slice (a_17) (v.mrk.length) (c_20), .slice (a_18) (v.cl.length) (c_21), .int .i64 (((mkC v s)).owner), .int .i64 (((mkC v s)).part), .int .i64 (((mkC v s)).n), .int .i64 ((((mkC v s)).ring).parts), .int .i64 ((((mkC v s)).ring).copies), .int .i64 ((((mkC v s)).ring).spots), .slice (a_45) (v.mem.length) (c_46), .slice (a_64) (v.pe.length) (c_65), .slice (a_78) (v.su.length) (c_79)] 57 := hb_10_
  clear hb_10_
  replace hR := hR.keepO K_98 (fun q_ hq_ eq_ => pr_13 (by simp only [one] at eq_; rw [← eq_]; exact hq_))
  replace hb_4 := hb_4.keep K_98 (by simp only [one]; omega)
  replace ho_22 := ho_22.keepO K_98 (fun q_ hq_ eq_ => pr_35 (by simp only [one] at eq_; rw [← eq_]; exact hq_))
  replace ho_23 := ho_23.keepO K_98 (fun q_ hq_ eq_ => pr_39 (by simp only [one] at eq_; rw [← eq_]; exact hq_))
  replace ho_24 := ho_24.keepO K_98 (fun q_ hq_ eq_ => pr_43 (by simp only [one] at eq_; rw [← eq_]; exact hq_))
  replace ho_47 := ho_47.keepO K_98 (fun q_ hq_ eq_ => pr_53 (by simp only [one] at eq_; rw [← eq_]; exact hq_))
  replace ho_67 := ho_67.keepO K_98 (fun q_ hq_ eq_ => pr_72 (by simp only [one] at eq_; rw [← eq_]; exact hq_))
  replace ho_81 := ho_81.keepO K_98 (fun q_ hq_ eq_ => pr_86 (by simp only [one] at eq_; rw [← eq_]; exact hq_))
  replace K0 := K0.new K_98 (fun x hx => by simp only [one] at hx; omega)
  replace hb_10 := hb_10'
  clear hb_10'
  refine RL.nil ?_
  refine Run.retC (cs := #[.int .i64 (((mkC v s)).kind), .int .i64 (((mkC v s)).frm), .int .i64 (((mkC v s)).to), .int .i64 (((mkC v s)).req), .string (((mkC v s)).key), .slice (a_16) (v.ent.length) (c_19), .slice (a_17) (v.mrk.length) (c_20), .slice (a_18) (v.cl.length) (c_21), .int .i64 (((mkC v s)).owner), .int .i64 (((mkC v s)).part), .int .i64 (((mkC v s)).n), .int .i64 ((((mkC v s)).ring).parts), .int .i64 ((((mkC v s)).ring).copies), .int .i64 ((((mkC v s)).ring).spots), .slice (a_45) (v.mem.length) (c_46), .slice (a_64) (v.pe.length) (c_65), .slice (a_78) (v.su.length) (c_79)]) Tryz.func43 rfl ty57 rfl rfl hb_10.cl ?_
  exact ⟨_, rfl, ⟨a_16, c_19, a_17, c_20, a_18, c_21, a_45, c_46, a_64, c_65, a_78, c_79⟩, rfl, ⟨ho_22, ho_23, ho_24, ho_47, ho_67, ho_81⟩, (List.pairwise_cons.2 ⟨(List.forall_mem_cons.2 ⟨pr_27, (List.forall_mem_cons.2 ⟨pr_28, (List.forall_mem_cons.2 ⟨(fun q_ h1 h2 => pr_54 q_ h2 h1), (List.forall_mem_cons.2 ⟨(fun q_ h1 h2 => pr_73 q_ h2 h1), (List.forall_mem_cons.2 ⟨(fun q_ h1 h2 => pr_87 q_ h2 h1), (fun _ h => absurd h List.not_mem_nil)⟩)⟩)⟩)⟩)⟩), (List.pairwise_cons.2 ⟨(List.forall_mem_cons.2 ⟨pr_29, (List.forall_mem_cons.2 ⟨(fun q_ h1 h2 => pr_55 q_ h2 h1), (List.forall_mem_cons.2 ⟨(fun q_ h1 h2 => pr_74 q_ h2 h1), (List.forall_mem_cons.2 ⟨(fun q_ h1 h2 => pr_88 q_ h2 h1), (fun _ h => absurd h List.not_mem_nil)⟩)⟩)⟩)⟩), (List.pairwise_cons.2 ⟨(List.forall_mem_cons.2 ⟨(fun q_ h1 h2 => pr_56 q_ h2 h1), (List.forall_mem_cons.2 ⟨(fun q_ h1 h2 => pr_75 q_ h2 h1), (List.forall_mem_cons.2 ⟨(fun q_ h1 h2 => pr_89 q_ h2 h1), (fun _ h => absurd h List.not_mem_nil)⟩)⟩)⟩), (List.pairwise_cons.2 ⟨(List.forall_mem_cons.2 ⟨(fun q_ h1 h2 => pr_76 q_ h2 h1), (List.forall_mem_cons.2 ⟨(fun q_ h1 h2 => pr_90 q_ h2 h1), (fun _ h => absurd h List.not_mem_nil)⟩)⟩), (List.pairwise_cons.2 ⟨(List.forall_mem_cons.2 ⟨(fun q_ h1 h2 => pr_91 q_ h2 h1), (fun _ h => absurd h List.not_mem_nil)⟩), (List.pairwise_cons.2 ⟨(fun _ h => absurd h List.not_mem_nil), List.Pairwise.nil⟩)⟩)⟩)⟩)⟩)⟩), fun q hq => by
    rcases hq with hq | hq | hq | hq | hq | hq
    · exact pg_36 q hq
    · exact pg_40 q hq
    · exact pg_44 q hq
    · exact pg_57 q hq
    · exact pg_77 q hq
    · exact pg_92 q hq, K0⟩

set_option maxRecDepth 100000 in
set_option maxHeartbeats 4000000 in
theorem msgs_ (al : Option Addr) (ms : List Mg) (lc : Nat) (w : World) (hl : SlOf w al (ms.map Mg.c)) (hms : ∀ m ∈ ms, SixR w m.s m.v ∧ VOk m.v) (hml : ms.length ≤ 1048576) :
    Calls Tryz.prog 16 #[.slice (al) ((ms.map Mg.c).length) (lc)] w (Ret (fun r w' => ∃ a' c' ks, r = .slice a' (ks.map Pk.c).length c' ∧ OwnSl w' 57 a' c' (ks.map Pk.c) ∧ MgsAt w' ks ∧ ks.map Pk.v = (ms.map Mg.v) ∧ (∀ q, own a' q → w.heap.size ≤ q) ∧ (∀ q, mgsS ks q → w.heap.size ≤ q) ∧ (∀ q, mgsS ks q → ¬ own a' q) ∧ Ext w w')) := by
  have hmc : (ms.map Mg.c).length = ms.length := List.length_map ..
  have hmv0 : (ms.map Mg.v).length = ms.length := List.length_map ..
  refine calls_run (n := 19) Tryz.func16 rfl rfl rfl ?_
  refine Run.seq ?_
  refine Run.region ?_
  refine RL.val (x_assignSl rfl) ?_
  refine RL.nil ?_
  refine Run.seq ?_
  have hQ := MgsAt.nil w
  refine Run.region ?_
  refine RL.val (x_assignSl rfl) ?_
  refine RL.nil ?_
  refine Run.seq ?_
  refine Run.seq ?_
  refine Run.region ?_
  refine RL.val (x_moveSl rfl) ?_
  refine RL.val (x_lenSl Tryz.underlying31 rfl) ?_
  refine RL.val (x_moveI rfl) ?_
  refine RL.nil ?_
  refine Run.block ?_
  refine Run.loop (ι := Nat) (fun i ρ' w' => ∃ am : Option Addr, ∃ cm : Nat, ∃ ks : List Pk, Holds ρ' [(3, .slice (am) ((ks.map Pk.c).length) (cm)), (6, .slice (al) ((ms.map Mg.c).length) (lc)), (7, .int .i64 ((((ms.map Mg.c).length : Nat) : Int))), (8, .int .i64 (((i : Nat) : Int)))] ∧ Ext w w' ∧ (MgsAt w' ks) ∧ (OwnSl w' 57 am cm (ks.map Pk.c)) ∧ (∀ q_, mgsS ks q_ → ¬ own am q_) ∧ (∀ q_, mgsS ks q_ → w.heap.size ≤ q_) ∧ (∀ q_, own am q_ → w.heap.size ≤ q_) ∧ (i ≤ ms.length) ∧ (ks.map Pk.v = (ms.map Mg.v).take i)) (fun i => ms.length - i) 0 ?_ ?_
  · have ho_8 := OwnSl.nil (α := MsgC) w 57
    refine ⟨_, _, [], ⟨rfl, rfl, rfl, rfl, trivial⟩, (Keeps.refl _ w), hQ, ho_8, (fun q_ h1 h2 => (fun q_ h1 _ => own_none q_ h1) q_ h2 h1), (fun q_ h1 => absurd h1 (mgs_nil q_)), (fun q_ h1 => absurd h1 (own_none q_)), ?_, ?_⟩
    · omega
    · rfl
  clear hQ
  rintro i ρ_9 w_1 ⟨am, cm, ks, hH_2, K0, hO_3, ho_4, pr_5, pr_6, pr_7, hi, hkv⟩ ih1
  obtain ⟨ρ₀, rfl⟩ := hH_2.ex
  clear hH_2
  refine Run.seq ?_
  refine Run.region ?_
  refine RL.val (x_ltI rfl rfl) ?_
  refine RL.nil ?_
  refine Run.seq ?_
  refine Run.cond rfl (fun hc9 => ?_) (fun hc9 => ?_)
  · try simp only [br] at hc9
    refine Run.skip ?_
    refine Run.seq ?_
    refine Run.block ?_
    refine Run.seq ?_
    obtain ⟨x0, hx0⟩ : ∃ x, (ms.map Mg.c)[i]? = some x := ⟨_, List.getElem?_eq_getElem (by omega)⟩
    obtain ⟨m, hm, hxe, hmv⟩ := mg_get hx0
    subst hxe
    refine Run.region ?_
    obtain ⟨b_10, o_11, x_14, hx_15, ha_12, hc_13⟩ := hl.el (i := i) (by first | omega | (simp only [List.length_set]; omega))
    have hc_13_lt := hc_13.lt
    replace hc_13 := hc_13.ext K0
    obtain rfl : (mkC m.v m.s) = x_14 := Option.some.inj (hx0.symm.trans hx_15)
    refine RL.val (x_idxN Tryz.underlying31 ty57 rfl rfl ha_12 (by first | omega | (simp only [List.length_set]; omega))) ?_
    refine RL.val (x_ldV (v := .agg #[.int .i64 (((mkC m.v m.s)).kind), .int .i64 (((mkC m.v m.s)).frm), .int .i64 (((mkC m.v m.s)).to), .int .i64 (((mkC m.v m.s)).req), .string (((mkC m.v m.s)).key), .slice (m.s.ea) (m.v.ent.length) (m.s.ec), .slice (m.s.ma) (m.v.mrk.length) (m.s.mc), .slice (m.s.ca) (m.v.cl.length) (m.s.cc), .int .i64 (((mkC m.v m.s)).owner), .int .i64 (((mkC m.v m.s)).part), .int .i64 (((mkC m.v m.s)).n), .int .i64 ((((mkC m.v m.s)).ring).parts), .int .i64 ((((mkC m.v m.s)).ring).copies), .int .i64 ((((mkC m.v m.s)).ring).spots), .slice (m.s.ba) (m.v.mem.length) (m.s.bc), .slice (m.s.pa) (m.v.pe.length) (m.s.pc), .slice (m.s.sa) (m.v.su.length) (m.s.sc)]) (y := (mkC m.v m.s)) ty57 rfl hc_13 rfl) ?_
    refine RL.st rfl <| St1.alloc ty57 ?_
    intro b_16 w_17 hl_20 hb_19 K_18
    replace hb_19 : Blk w_17 b_16 [.int .i64 (0), .int .i64 (0), .int .i64 (0), .int .i64 (0), .string (⟨#[]⟩), .slice (none) (0) (0), .slice (none) (0) (0), .slice (none) (0) (0), .int .i64 (0), .int .i64 (0), .int .i64 (0), .int .i64 (0), .int .i64 (0), .int .i64 (0), .slice (none) (0) (0), .slice (none) (0) (0), .slice (none) (0) (0)] 57 := hb_19
    have ne_21 : b_10 < b_16 := Nat.lt_of_lt_of_le hc_13.lt hl_20
    have pr_22 : ¬ mgsS ks b_16 := fun h => absurd (hO_3.own_lt _ h) (by omega)
    have pr_23 : ¬ own am b_16 := fun h => absurd (ho_4.own_lt _ h) (by omega)
    have : w.heap.size ≤ b_16 := Nat.le_trans K0.size hl_20
    clear hl_20
    replace hO_3 := hO_3.ext K_18
    replace ho_4 := ho_4.ext K_18
    replace hc_13 := hc_13.ext K_18
    replace K0 := K0.ext K_18
    refine RL.st rfl <| St1.store (v := .agg #[.int .i64 (((mkC m.v m.s)).kind), .int .i64 (((mkC m.v m.s)).frm), .int .i64 (((mkC m.v m.s)).to), .int .i64 (((mkC m.v m.s)).req), .string (((mkC m.v m.s)).key), .slice (m.s.ea) (m.v.ent.length) (m.s.ec), .slice (m.s.ma) (m.v.mrk.length) (m.s.mc), .slice (m.s.ca) (m.v.cl.length) (m.s.cc), .int .i64 (((mkC m.v m.s)).owner), .int .i64 (((mkC m.v m.s)).part), .int .i64 (((mkC m.v m.s)).n), .int .i64 ((((mkC m.v m.s)).ring).parts), .int .i64 ((((mkC m.v m.s)).ring).copies), .int .i64 ((((mkC m.v m.s)).ring).spots), .slice (m.s.ba) (m.v.mem.length) (m.s.bc), .slice (m.s.pa) (m.v.pe.length) (m.s.pc), .slice (m.s.sa) (m.v.su.length) (m.s.sc)]) ty57 rfl rfl rfl (by simp [Value.cells, Value.oneCell']) hb_19 (by simp) ?_
    intro w_24 hb_19_ K_25
    have hb_19' : Blk w_24 b_16 [.int .i64 (((mkC m.v m.s)).kind), .int .i64 (((mkC m.v m.s)).frm), .int .i64 (((mkC m.v m.s)).to), .int .i64 (((mkC m.v m.s)).req), .string (((mkC m.v m.s)).key), .slice (m.s.ea) (m.v.ent.length) (m.s.ec), .slice (m.s.ma) (m.v.mrk.length) (m.s.mc), .slice (m.s.ca) (m.v.cl.length) (m.s.cc), .int .i64 (((mkC m.v m.s)).owner), .int .i64 (((mkC m.v m.s)).part), .int .i64 (((mkC m.v m.s)).n), .int .i64 ((((mkC m.v m.s)).ring).parts), .int .i64 ((((mkC m.v m.s)).ring).copies), .int .i64 ((((mkC m.v m.s)).ring).spots), .slice (m.s.ba) (m.v.mem.length) (m.s.bc), .slice (m.s.pa) (m.v.pe.length) (m.s.pc), .slice (m.s.sa) (m.v.su.length) (m.s.sc)] 57 := hb_19_
    clear hb_19_
    replace hO_3 := hO_3.keepO K_25 (fun q_ hq_ eq_ => pr_22 (by simp only [one] at eq_; rw [← eq_]; exact hq_))
    replace ho_4 := ho_4.keepO K_25 (fun q_ hq_ eq_ => pr_23 (by simp only [one] at eq_; rw [← eq_]; exact hq_))
    replace hc_13 := hc_13.keep K_25 (by simp only [one]; omega)
    replace K0 := K0.new K_25 (fun x hx => by simp only [one] at hx; omega)
    replace hb_19 := hb_19'
    clear hb_19'
    refine RL.nil ?_
    have hkl : (ks.map Pk.c).length = i := by have := congrArg List.length hkv; simp only [List.length_map, List.length_take] at this ⊢; omega
    refine Run.region ?_
    refine RL.val (x_moveSl rfl) ?_
    refine RL.val (x_lds (cs := #[.int .i64 (((mkC m.v m.s)).kind), .int .i64 (((mkC m.v m.s)).frm), .int .i64 (((mkC m.v m.s)).to), .int .i64 (((mkC m.v m.s)).req), .string (((mkC m.v m.s)).key), .slice (m.s.ea) (m.v.ent.length) (m.s.ec), .slice (m.s.ma) (m.v.mrk.length) (m.s.mc), .slice (m.s.ca) (m.v.cl.length) (m.s.cc), .int .i64 (((mkC m.v m.s)).owner), .int .i64 (((mkC m.v m.s)).part), .int .i64 (((mkC m.v m.s)).n), .int .i64 ((((mkC m.v m.s)).ring).parts), .int .i64 ((((mkC m.v m.s)).ring).copies), .int .i64 ((((mkC m.v m.s)).ring).spots), .slice (m.s.ba) (m.v.mem.length) (m.s.bc), .slice (m.s.pa) (m.v.pe.length) (m.s.pc), .slice (m.s.sa) (m.v.su.length) (m.s.sc)]) ty57 rfl rfl (hb_19.cl.drop 0 17)) ?_
    refine RL.st rfl <| St1.call (vals := [.agg #[.int .i64 (((mkC m.v m.s)).kind), .int .i64 (((mkC m.v m.s)).frm), .int .i64 (((mkC m.v m.s)).to), .int .i64 (((mkC m.v m.s)).req), .string (((mkC m.v m.s)).key), .slice (m.s.ea) (m.v.ent.length) (m.s.ec), .slice (m.s.ma) (m.v.mrk.length) (m.s.mc), .slice (m.s.ca) (m.v.cl.length) (m.s.cc), .int .i64 (((mkC m.v m.s)).owner), .int .i64 (((mkC m.v m.s)).part), .int .i64 (((mkC m.v m.s)).n), .int .i64 ((((mkC m.v m.s)).ring).parts), .int .i64 ((((mkC m.v m.s)).ring).copies), .int .i64 ((((mkC m.v m.s)).ring).spots), .slice (m.s.ba) (m.v.mem.length) (m.s.bc), .slice (m.s.pa) (m.v.pe.length) (m.s.pc), .slice (m.s.sa) (m.v.su.length) (m.s.sc)]]) en43 rfl (msg_ m.v m.s _ ((hms m (mem_of_at hm)).1.ext K0) (hms m (mem_of_at hm)).2) ?_
    rintro _ w_27 ⟨s_26, rfl, hO_28, hA_29, hg_30, K_31⟩
    have pr_32 : ∀ q_, ownS s_26 q_ → ¬ mgsS ks q_ := apartNew hg_30 hO_3.own_lt
    have pr_33 : ∀ q_, ownS s_26 q_ → ¬ own am q_ := apartNew hg_30 ho_4.own_lt
    have pr_34 : ¬ ownS s_26 b_16 := notNew hg_30 hb_19.lt
    have pg_35 : ∀ q_, ownS s_26 q_ → w.heap.size ≤ q_ := fun q_ h => Nat.le_trans K0.size (hg_30 q_ h)
    clear hg_30
    replace hO_3 := hO_3.ext K_31
    replace ho_4 := ho_4.ext K_31
    replace hb_19 := hb_19.ext K_31
    replace K0 := K0.ext K_31
    refine RL.st rfl <| St1.buildSlice ([(mkC m.v s_26)] : List MsgC) Tryz.underlying31 ty57 rfl rfl (by first | decide | (simp [Enc.size])) ?_
    intro b_36 w_37 hl_40 ho_39 K_38
    have pr_41 : ∀ q_, own (some ⟨b_36, 0, none⟩) q_ → ¬ mgsS ks q_ := apartNew (ge_new hl_40) hO_3.own_lt
    have pr_42 : ∀ q_, own (some ⟨b_36, 0, none⟩) q_ → ¬ own am q_ := apartNew (ge_new hl_40) ho_4.own_lt
    have pr_43 : ¬ own (some ⟨b_36, 0, none⟩) b_16 := notNew (ge_new hl_40) hb_19.lt
    have pr_44 : ∀ q_, own (some ⟨b_36, 0, none⟩) q_ → ¬ ownS s_26 q_ := apartNew (ge_new hl_40) hO_28.own_lt
    have pg_45 : ∀ q_, own (some ⟨b_36, 0, none⟩) q_ → w.heap.size ≤ q_ := fun q_ h => Nat.le_trans K0.size ((ge_new hl_40) q_ h)
    clear hl_40
    replace hO_3 := hO_3.ext K_38
    replace ho_4 := ho_4.ext K_38
    replace hb_19 := hb_19.ext K_38
    replace hO_28 := hO_28.ext K_38
    replace K0 := K0.ext K_38
    refine RL.st rfl <| St1.append (xs := ks.map Pk.c) (ys := ([(mkC m.v s_26)] : List MsgC)) Tryz.underlying31 ty57 rfl rfl rfl ho_4 ho_39.sl (by first | omega | (simp only [lr]; omega)) (by decide) ?_
    intro a_46 c_47 w_48 ho_49 K_50 hm_51 hrm_52
    have pr_53 : ∀ q_, own a_46 q_ → ¬ mgsS ks q_ := hm_51.apart (fun q_ h1 h2 => pr_5 q_ h2 h1) hO_3.own_lt
    have pr_54 : ¬ own a_46 b_16 := hm_51.not pr_23 hb_19.lt
    have pr_55 : ∀ q_, own a_46 q_ → ¬ ownS s_26 q_ := hm_51.apart (fun q_ h1 h2 => pr_33 q_ h2 h1) hO_28.own_lt
    have pr_56 : ∀ q_, own a_46 q_ → ¬ own (some ⟨b_36, 0, none⟩) q_ := hm_51.apart (fun q_ h1 h2 => pr_42 q_ h2 h1) ho_39.own_lt
    have pg_57 : ∀ q_, own a_46 q_ → w.heap.size ≤ q_ := hm_51.ge pr_7 K0.size
    replace hO_3 := hO_3.keepO K_50 pr_5
    replace hb_19 := hb_19.keep K_50 pr_23
    replace hO_28 := hO_28.keepO K_50 pr_33
    replace ho_39 := ho_39.keepO K_50 pr_42
    replace K0 := K0.new K_50 pr_7
    clear hm_51
    clear hrm_52
    refine RL.val (x_assignSl rfl) ?_
    refine RL.nil ?_
    refine Run.inBlock ?_
    refine Run.region ?_
    refine RL.val (litI (c := ((i + 1 : Nat) : Int)) (x_add rfl rfl (by omega) (by omega)) rfl) ?_
    refine RL.val (x_moveI rfl) ?_
    refine RL.nil ?_
    have hQ_58 : MgsAt w_48 (ks ++ [(⟨0, m.v, s_26⟩ : Pk)]) := MgsAt.snoc hO_3 ⟨hO_28, hA_29, (hms m (mem_of_at hm)).2⟩ (fun q_ h1 h2 => pr_32 q_ h2 h1)
    have pr_59 : ¬ mgsS (ks ++ [(⟨0, m.v, s_26⟩ : Pk)]) b_16 := fun x_ => (mgs_case _ x_).elim pr_34 (fun y_ => pr_22 y_)
    have pr_60 : ∀ q_, mgsS (ks ++ [(⟨0, m.v, s_26⟩ : Pk)]) q_ → ¬ own (some ⟨b_36, 0, none⟩) q_ := fun q_ x_ z_ => (mgs_case _ x_).elim (fun y_ => (fun q_ h1 h2 => pr_44 q_ h2 h1) q_ y_ z_) (fun y_ => (fun y_ => (fun q_ h1 h2 => pr_41 q_ h2 h1) q_ y_ z_) y_)
    have pr_61 : ∀ q_, mgsS (ks ++ [(⟨0, m.v, s_26⟩ : Pk)]) q_ → ¬ own a_46 q_ := fun q_ x_ z_ => (mgs_case _ x_).elim (fun y_ => (fun q_ h1 h2 => pr_55 q_ h2 h1) q_ y_ z_) (fun y_ => (fun y_ => (fun q_ h1 h2 => pr_53 q_ h2 h1) q_ y_ z_) y_)
    have pg_62 : ∀ q_, mgsS (ks ++ [(⟨0, m.v, s_26⟩ : Pk)]) q_ → w.heap.size ≤ q_ := fun q_ x_ => (mgs_case _ x_).elim (fun y_ => pg_35 q_ y_) (fun y_ => (fun y_ => pr_6 q_ y_) y_)
    have e : (ks ++ [(⟨0, m.v, s_26⟩ : Pk)]).map Pk.c = ks.map Pk.c ++ [mkC m.v s_26] := by rw [List.map_append]; rfl
    have hkv2 : (ks ++ [(⟨0, m.v, s_26⟩ : Pk)]).map Pk.v = (ms.map Mg.v).take (i + 1) := by rw [List.map_append, hkv, List.take_succ_eq_append_getElem (by omega), (List.getElem?_eq_some_iff.1 hmv).2]; rfl
    rw [← e] at ho_49
    refine ih1 (i + 1) _ _ ?_ (by omega)
    rw [← e]
    refine ⟨_, _, (ks ++ [(⟨0, m.v, s_26⟩ : Pk)]), ⟨rfl, rfl, rfl, rfl, trivial⟩, K0, hQ_58, ho_49, pr_61, pg_62, pg_57, ?_, ?_⟩
    · omega
    · exact hkv2
  · try simp only [br] at hc9
    refine Run.exit rfl ?_
    refine Run.seq ?_
    refine Run.region ?_
    refine RL.val (x_moveSl rfl) ?_
    refine RL.val (x_assignSl rfl) ?_
    refine RL.nil ?_
    refine Run.ret1 (v := .slice (am) ((ks.map Pk.c).length) (cm)) Tryz.func16 rfl rfl ?_
    have hil : i = ms.length := by omega
    exact ⟨_, rfl, am, cm, ks, rfl, ho_4, hO_3, by rw [hkv, List.take_of_length_le (by omega)], pr_7, pr_6, pr_5, K0⟩

end Go.Proofs.YtdlaoncjiolckaaGreat
