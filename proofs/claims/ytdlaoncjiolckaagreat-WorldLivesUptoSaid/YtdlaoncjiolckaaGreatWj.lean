/-
  Layer 22: Packets; samePackets; among.
-/
import Derived.Test.YtdlaoncjiolckaaGreatRows
import Derived.Test.YtdlaoncjiolckaaGreatWi
namespace Go.Proofs.YtdlaoncjiolckaaGreat
attribute [local irreducible] St1 RL RA RT RT1 Run

theorem pairE {i j : Int} {v u : MV} : ((i == j) && decide (v = u)) = decide ((i, v) = (j, u)) := by
  rw [Bool.eq_iff_iff]
  simp only [Bool.and_eq_true, beq_iff_eq, decide_eq_true_eq, Prod.mk.injEq]
theorem all_eq {a b : List (Int × MV)} {i : Nat} (h : a.take i = b.take i) (h1 : a.length ≤ i) (h2 : b.length ≤ i) : a = b := by rwa [List.take_of_length_le h1, List.take_of_length_le h2] at h

theorem ty59 : Ty Tryz.prog 59 18 248 (.agg #[.int .i64 (0), .int .i64 (0), .int .i64 (0), .int .i64 (0), .int .i64 (0), .string (⟨#[]⟩), .slice (none) (0) (0), .slice (none) (0) (0), .slice (none) (0) (0), .int .i64 (0), .int .i64 (0), .int .i64 (0), .int .i64 (0), .int .i64 (0), .int .i64 (0), .slice (none) (0) (0), .slice (none) (0) (0), .slice (none) (0) (0)]) true := ty_of (by kernel_rfl) (by kernel_rfl)
theorem en19 : Enters Tryz.prog 19 := enters_of Tryz.func19 rfl (by kernel_rfl)
theorem en34 : Enters Tryz.prog 34 := enters_of Tryz.func34 rfl (by kernel_rfl)
theorem en35 : Enters Tryz.prog 35 := enters_of Tryz.func35 rfl (by kernel_rfl)
theorem en37 : Enters Tryz.prog 37 := enters_of Tryz.func37 rfl (by kernel_rfl)
theorem en38 : Enters Tryz.prog 38 := enters_of Tryz.func38 rfl (by kernel_rfl)

set_option maxRecDepth 100000 in
set_option maxHeartbeats 4000000 in
theorem packets_ (b pm cm : Nat) (nodes id now : Int) (ts : List Pk) (cs : List LinkC) (w : World) (hD : WldO w b pm cm nodes id now ts cs) (hid : id ≤ 1000000000) :
    Calls Tryz.prog 10 #[.pointer (some ⟨b, 0, none⟩)] w (Ret (fun r w' => ∃ a' c' ks, r = .slice a' (ks.map Pk.k).length c' ∧ OwnSl w' 59 a' c' (ks.map Pk.k) ∧ MgsAt w' ks ∧ ks.map Pk.p = ts.map Pk.p ∧ (∀ q, own a' q → w.heap.size ≤ q) ∧ (∀ q, mgsS ks q → w.heap.size ≤ q) ∧ (∀ q, mgsS ks q → ¬ own a' q) ∧ Ext w w')) := by
  obtain ⟨hB, hP, hC, hM, hn1, hn2, hn3, hsb, hsp, hsc, hok⟩ := hD
  obtain ⟨hno1, hno2⟩ := hok.nodes
  obtain ⟨hnw1, hnw2⟩ := hok.now
  have hid0 := hok.id0
  have hl5 := hok.len
  rw [p_len] at hl5
  have hpl := pents_len ts
  have hkx : ((pents ts).map (·.1)).length = ts.length := by rw [List.length_map, hpl]
  refine calls_run (n := 34) Tryz.func10 rfl rfl rfl ?_
  refine Run.seq ?_
  refine Run.region ?_
  refine RL.val (x_assignSl rfl) ?_
  refine RL.nil ?_
  refine Run.seq ?_
  refine Run.seq ?_
  refine Run.region ?_
  refine RL.val (x_moveP rfl) ?_
  refine RL.st rfl <| St1.call (vals := [.pointer (some ⟨b, 0, none⟩)]) en31 rfl (made_ b pm cm nodes id now ts cs _ (⟨hB, hP, hC, hM, hn1, hn2, hn3, hsb, (fun h_ => (mp_of hsp) _ h_ rfl), (fun h_ => (mp_of hsc) _ h_ rfl), hok⟩ : WldO _ b pm cm nodes id now ts cs)) ?_
  rintro _ _ ⟨rfl, rfl⟩
  refine RL.val (x_not (b := true) rfl) ?_
  refine RL.nil ?_
  refine Run.condF rfl ?_
  refine Run.skip ?_
  refine Run.seq ?_
  have hQ := MgsAt.nil w
  refine Run.region ?_
  refine RL.val (x_assignSl rfl) ?_
  refine RL.nil ?_
  refine Run.seq ?_
  refine Run.seq ?_
  refine Run.region ?_
  refine RL.val (x_moveP rfl) ?_
  refine RL.val (x_nilCheck rfl) ?_
  refine RL.val (x_fld (o' := 1) Tryz.underlying64 rfl ty61 rfl rfl rfl) ?_
  refine RL.val (x_ld (v := .map (some pm)) ty61 rfl rfl (hB.cl.field (i := 1) rfl)) ?_
  refine RL.st rfl <| St1.call (vals := [.map (some pm)]) en35 rfl (keysM pm _) ?_
  rintro _ _ ⟨rfl, rfl⟩
  have hP0 := hP
  have K_1 : Ext w (w.alloc (.cells #[.map (some pm)] 61)) := Ext.push _ _
  replace hB := hB.ext K_1
  replace hP := hP.ext K_1
  replace hC := hC.ext K_1
  replace hM := hM.ext K_1
  replace hQ := hQ.ext K_1
  have K0 := (K_1 : Ext w _)
  refine RL.st rfl <| St1.call (vals := [.func (.func 62) #[] #[.pointer (some ⟨w.heap.size, 0, none⟩)]]) en34 rfl (sortedM pm w hP0 (ids_b hok hid) (by omega) (ids_rise hok)) ?_
  rintro _ w_4 ⟨a_2, c_3, rfl, ho_5, hg_6, K_7⟩
  have pr_8 : ¬ own a_2 b := notNew hg_6 hB.lt
  have pr_9 : ∀ q_, own a_2 q_ → ¬ one pm q_ := apartNew hg_6 hP.own_lt
  have pr_10 : ∀ q_, own a_2 q_ → ¬ one cm q_ := apartNew hg_6 hC.own_lt
  have pr_11 : ∀ q_, own a_2 q_ → ¬ mgsS ts q_ := apartNew hg_6 hM.own_lt
  have pr_12 : ∀ q_, own a_2 q_ → ¬ mgsS ([] : List Pk) q_ := apartNew hg_6 hQ.own_lt
  have pg_13 : ∀ q_, own a_2 q_ → w.heap.size ≤ q_ := fun q_ h => Nat.le_trans K0.size (hg_6 q_ h)
  clear hg_6
  replace hB := hB.ext K_7
  replace hP := hP.ext K_7
  replace hC := hC.ext K_7
  replace hM := hM.ext K_7
  replace hQ := hQ.ext K_7
  replace K0 := K0.ext K_7
  refine RL.val (x_lenSl Tryz.underlying75 rfl) ?_
  refine RL.val (x_moveI rfl) ?_
  refine RL.nil ?_
  refine Run.block ?_
  refine Run.loop (ι := Nat) (fun i ρ' w' => ∃ apk : Option Addr, ∃ cpk : Nat, ∃ ks : List Pk, Holds ρ' [(0, .pointer (some ⟨b, 0, none⟩)), (3, .slice (apk) ((ks.map Pk.k).length) (cpk)), (14, .slice (a_2) (((pents ts).map (·.1)).length) (c_3)), (15, .int .i64 (((((pents ts).map (·.1)).length : Nat) : Int))), (16, .int .i64 (((i : Nat) : Int)))] ∧ Ext w w' ∧ (Blk w' b [.int .i64 (nodes), .map (some pm), .map (some cm), .int .i64 (id), .int .i64 (now)] 64) ∧ (MapAt w' pm (pents ts)) ∧ (MapAt w' cm (cents cs)) ∧ (MgsAt w' ts) ∧ (OwnSl w' 3 (a_2) (c_3) ((pents ts).map (·.1))) ∧ (MgsAt w' ks) ∧ (OwnSl w' 59 apk cpk (ks.map Pk.k)) ∧ (¬ mgsS ks b) ∧ (∀ q_, mgsS ks q_ → ¬ one pm q_) ∧ (∀ q_, mgsS ks q_ → ¬ one cm q_) ∧ (∀ q_, mgsS ks q_ → ¬ mgsS ts q_) ∧ (∀ q_, mgsS ks q_ → ¬ own a_2 q_) ∧ (∀ q_, mgsS ks q_ → ¬ own apk q_) ∧ (∀ q_, mgsS ks q_ → w.heap.size ≤ q_) ∧ (¬ own apk b) ∧ (∀ q_, own apk q_ → ¬ one pm q_) ∧ (∀ q_, own apk q_ → ¬ one cm q_) ∧ (∀ q_, own apk q_ → ¬ mgsS ts q_) ∧ (∀ q_, own apk q_ → ¬ own a_2 q_) ∧ (∀ q_, own apk q_ → w.heap.size ≤ q_) ∧ (i ≤ ts.length) ∧ (ks.map Pk.p = (ts.map Pk.p).take i)) (fun i => ts.length - i) 0 ?_ ?_
  · have ho_31 := OwnSl.nil (α := PacketC) w_4 59
    refine ⟨_, _, [], ⟨rfl, rfl, rfl, rfl, rfl, trivial⟩, K0, hB, hP, hC, hM, ho_5, hQ, ho_31, (mgs_nil b), (fun q_ h1 _ => mgs_nil q_ h1), (fun q_ h1 _ => mgs_nil q_ h1), (fun q_ h1 _ => mgs_nil q_ h1), (fun q_ h1 h2 => pr_12 q_ h2 h1), (fun q_ h1 h2 => (fun q_ h1 _ => own_none q_ h1) q_ h2 h1), (fun q_ h1 => absurd h1 (mgs_nil q_)), (own_none b), (fun q_ h1 _ => own_none q_ h1), (fun q_ h1 _ => own_none q_ h1), (fun q_ h1 _ => own_none q_ h1), (fun q_ h1 _ => own_none q_ h1), (fun q_ h1 => absurd h1 (own_none q_)), ?_, ?_⟩
    · omega
    · rfl
  clear hB hP hC hM hQ ho_5
  clear K0
  rintro i ρ_32 w_14 ⟨apk, cpk, ks, hH_15, K0, hB, hP, hC, hM, ho_5, hO_16, ho_17, pr_18, pr_19, pr_20, pr_21, pr_22, pr_23, pr_24, pr_25, pr_26, pr_27, pr_28, pr_29, pr_30, hi, hks⟩ ih1
  obtain ⟨ρ₀, rfl⟩ := hH_15.ex
  clear hH_15
  refine Run.seq ?_
  refine Run.region ?_
  refine RL.val (x_ltI rfl rfl) ?_
  refine RL.nil ?_
  refine Run.seq ?_
  refine Run.cond rfl (fun hc17 => ?_) (fun hc17 => ?_)
  · try simp only [br] at hc17
    refine Run.skip ?_
    refine Run.seq ?_
    refine Run.block ?_
    refine Run.seq ?_
    obtain ⟨x0, hx0⟩ : ∃ x, ((pents ts).map (·.1))[i]? = some x := ⟨_, List.getElem?_eq_getElem (by rw [hkx]; omega)⟩
    obtain ⟨p, hp0, hp, hxe, hpp⟩ := id_get hx0
    subst hxe
    have hmg := mget_in (i := p.id) hok.rise hp rfl
    have hvk := (hM.all p hp).ok
    refine Run.region ?_
    obtain ⟨b_33, o_34, x_37, hx_38, ha_35, hc_36⟩ := ho_5.sl.el (i := i) (by first | omega | (simp only [List.length_set]; omega))
    obtain rfl : p.id = x_37 := Option.some.inj (hx0.symm.trans hx_38)
    refine RL.val (x_idxN Tryz.underlying75 ty3 rfl rfl ha_35 (by first | omega | (simp only [List.length_set]; omega))) ?_
    refine RL.val (x_ldV (v := .int .i64 (p.id)) (y := p.id) ty3 rfl hc_36 rfl) ?_
    refine RL.val (x_assignI rfl) ?_
    refine RL.nil ?_
    have hkl : (ks.map Pk.k).length = i := by have := congrArg List.length hks; simp only [List.length_map, List.length_take] at this ⊢; omega
    refine Run.region ?_
    refine RL.val (x_moveSl rfl) ?_
    refine RL.val (x_moveI rfl) ?_
    refine RL.val (x_moveP rfl) ?_
    refine RL.val (x_nilCheck rfl) ?_
    refine RL.val (x_fld (o' := 1) Tryz.underlying64 rfl ty61 rfl rfl rfl) ?_
    refine RL.val (x_ld (v := .map (some pm)) ty61 rfl rfl (hB.cl.field (i := 1) rfl)) ?_
    refine RL.val (x_moveI rfl) ?_
    refine RL.val (litV (v' := .agg #[.int .i64 (((mkC p.v p.s)).kind), .int .i64 (((mkC p.v p.s)).frm), .int .i64 (((mkC p.v p.s)).to), .int .i64 (((mkC p.v p.s)).req), .string (((mkC p.v p.s)).key), .slice (p.s.ea) (p.v.ent.length) (p.s.ec), .slice (p.s.ma) (p.v.mrk.length) (p.s.mc), .slice (p.s.ca) (p.v.cl.length) (p.s.cc), .int .i64 (((mkC p.v p.s)).owner), .int .i64 (((mkC p.v p.s)).part), .int .i64 (((mkC p.v p.s)).n), .int .i64 ((((mkC p.v p.s)).ring).parts), .int .i64 ((((mkC p.v p.s)).ring).copies), .int .i64 ((((mkC p.v p.s)).ring).spots), .slice (p.s.ba) (p.v.mem.length) (p.s.bc), .slice (p.s.pa) (p.v.pe.length) (p.s.pc), .slice (p.s.sa) (p.v.su.length) (p.s.sc)]) (x_lookup Tryz.underlying61 Tryz.underlying3 rfl ty57 rfl rfl hP) (by rw [hmg]; rfl)) ?_
    refine RL.st rfl <| St1.call (vals := [.agg #[.int .i64 (((mkC p.v p.s)).kind), .int .i64 (((mkC p.v p.s)).frm), .int .i64 (((mkC p.v p.s)).to), .int .i64 (((mkC p.v p.s)).req), .string (((mkC p.v p.s)).key), .slice (p.s.ea) (p.v.ent.length) (p.s.ec), .slice (p.s.ma) (p.v.mrk.length) (p.s.mc), .slice (p.s.ca) (p.v.cl.length) (p.s.cc), .int .i64 (((mkC p.v p.s)).owner), .int .i64 (((mkC p.v p.s)).part), .int .i64 (((mkC p.v p.s)).n), .int .i64 ((((mkC p.v p.s)).ring).parts), .int .i64 ((((mkC p.v p.s)).ring).copies), .int .i64 ((((mkC p.v p.s)).ring).spots), .slice (p.s.ba) (p.v.mem.length) (p.s.bc), .slice (p.s.pa) (p.v.pe.length) (p.s.pc), .slice (p.s.sa) (p.v.su.length) (p.s.sc)]]) en36 rfl (copied_ p.v p.s _ ((hM.all p hp).own.r) (hM.all p hp).ok) ?_
    rintro _ w_40 ⟨s_39, rfl, hO_41, hA_42, hg_43, K_44⟩
    have pr_45 : ¬ ownS s_39 b := notNew hg_43 hB.lt
    have pr_46 : ∀ q_, ownS s_39 q_ → ¬ one pm q_ := apartNew hg_43 hP.own_lt
    have pr_47 : ∀ q_, ownS s_39 q_ → ¬ one cm q_ := apartNew hg_43 hC.own_lt
    have pr_48 : ∀ q_, ownS s_39 q_ → ¬ mgsS ts q_ := apartNew hg_43 hM.own_lt
    have pr_49 : ∀ q_, ownS s_39 q_ → ¬ own a_2 q_ := apartNew hg_43 ho_5.own_lt
    have pr_50 : ∀ q_, ownS s_39 q_ → ¬ mgsS ks q_ := apartNew hg_43 hO_16.own_lt
    have pr_51 : ∀ q_, ownS s_39 q_ → ¬ own apk q_ := apartNew hg_43 ho_17.own_lt
    have pg_52 : ∀ q_, ownS s_39 q_ → w.heap.size ≤ q_ := fun q_ h => Nat.le_trans K0.size (hg_43 q_ h)
    clear hg_43
    replace hB := hB.ext K_44
    replace hP := hP.ext K_44
    replace hC := hC.ext K_44
    replace hM := hM.ext K_44
    replace ho_5 := ho_5.ext K_44
    replace hO_16 := hO_16.ext K_44
    replace ho_17 := ho_17.ext K_44
    replace K0 := K0.ext K_44
    refine RL.val (x_build (cells := #[.int .i64 (p.id), .int .i64 (((mkC p.v s_39)).kind), .int .i64 (((mkC p.v s_39)).frm), .int .i64 (((mkC p.v s_39)).to), .int .i64 (((mkC p.v s_39)).req), .string (((mkC p.v s_39)).key), .slice (s_39.ea) (p.v.ent.length) (s_39.ec), .slice (s_39.ma) (p.v.mrk.length) (s_39.mc), .slice (s_39.ca) (p.v.cl.length) (s_39.cc), .int .i64 (((mkC p.v s_39)).owner), .int .i64 (((mkC p.v s_39)).part), .int .i64 (((mkC p.v s_39)).n), .int .i64 ((((mkC p.v s_39)).ring).parts), .int .i64 ((((mkC p.v s_39)).ring).copies), .int .i64 ((((mkC p.v s_39)).ring).spots), .slice (s_39.ba) (p.v.mem.length) (s_39.bc), .slice (s_39.pa) (p.v.pe.length) (s_39.pc), .slice (s_39.sa) (p.v.su.length) (s_39.sc)]) (by kernel_rfl)) ?_
    refine RL.st rfl <| St1.buildSlice ([(⟨p.id, (mkC p.v s_39)⟩ : PacketC)] : List PacketC) Tryz.underlying36 ty59 rfl rfl (by first | decide | (simp [Enc.size])) ?_
    intro b_53 w_54 hl_57 ho_56 K_55
    have pr_58 : ¬ own (some ⟨b_53, 0, none⟩) b := notNew (ge_new hl_57) hB.lt
    have pr_59 : ∀ q_, own (some ⟨b_53, 0, none⟩) q_ → ¬ one pm q_ := apartNew (ge_new hl_57) hP.own_lt
    have pr_60 : ∀ q_, own (some ⟨b_53, 0, none⟩) q_ → ¬ one cm q_ := apartNew (ge_new hl_57) hC.own_lt
    have pr_61 : ∀ q_, own (some ⟨b_53, 0, none⟩) q_ → ¬ mgsS ts q_ := apartNew (ge_new hl_57) hM.own_lt
    have pr_62 : ∀ q_, own (some ⟨b_53, 0, none⟩) q_ → ¬ own a_2 q_ := apartNew (ge_new hl_57) ho_5.own_lt
    have pr_63 : ∀ q_, own (some ⟨b_53, 0, none⟩) q_ → ¬ mgsS ks q_ := apartNew (ge_new hl_57) hO_16.own_lt
    have pr_64 : ∀ q_, own (some ⟨b_53, 0, none⟩) q_ → ¬ own apk q_ := apartNew (ge_new hl_57) ho_17.own_lt
    have pr_65 : ∀ q_, own (some ⟨b_53, 0, none⟩) q_ → ¬ ownS s_39 q_ := apartNew (ge_new hl_57) hO_41.own_lt
    have pg_66 : ∀ q_, own (some ⟨b_53, 0, none⟩) q_ → w.heap.size ≤ q_ := fun q_ h => Nat.le_trans K0.size ((ge_new hl_57) q_ h)
    clear hl_57
    replace hB := hB.ext K_55
    replace hP := hP.ext K_55
    replace hC := hC.ext K_55
    replace hM := hM.ext K_55
    replace ho_5 := ho_5.ext K_55
    replace hO_16 := hO_16.ext K_55
    replace ho_17 := ho_17.ext K_55
    replace hO_41 := hO_41.ext K_55
    replace K0 := K0.ext K_55
    refine RL.st rfl <| St1.append (xs := ks.map Pk.k) (ys := ([(⟨p.id, (mkC p.v s_39)⟩ : PacketC)] : List PacketC)) Tryz.underlying36 ty59 rfl rfl rfl ho_17 ho_56.sl (by first | omega | (simp only [lr]; omega)) (by decide) ?_
    intro a_67 c_68 w_69 ho_70 K_71 hm_72 hrm_73
    have pr_74 : ¬ own a_67 b := hm_72.not pr_25 hB.lt
    have pr_75 : ∀ q_, own a_67 q_ → ¬ one pm q_ := hm_72.apart pr_26 hP.own_lt
    have pr_76 : ∀ q_, own a_67 q_ → ¬ one cm q_ := hm_72.apart pr_27 hC.own_lt
    have pr_77 : ∀ q_, own a_67 q_ → ¬ mgsS ts q_ := hm_72.apart pr_28 hM.own_lt
    have pr_78 : ∀ q_, own a_67 q_ → ¬ own a_2 q_ := hm_72.apart pr_29 ho_5.own_lt
    have pr_79 : ∀ q_, own a_67 q_ → ¬ mgsS ks q_ := hm_72.apart (fun q_ h1 h2 => pr_23 q_ h2 h1) hO_16.own_lt
    have pr_80 : ∀ q_, own a_67 q_ → ¬ ownS s_39 q_ := hm_72.apart (fun q_ h1 h2 => pr_51 q_ h2 h1) hO_41.own_lt
    have pr_81 : ∀ q_, own a_67 q_ → ¬ own (some ⟨b_53, 0, none⟩) q_ := hm_72.apart (fun q_ h1 h2 => pr_64 q_ h2 h1) ho_56.own_lt
    have pg_82 : ∀ q_, own a_67 q_ → w.heap.size ≤ q_ := hm_72.ge pr_30 K0.size
    replace hB := hB.keep K_71 pr_25
    replace hP := hP.keepO K_71 (fun q_ h1 h2 => pr_26 q_ h2 h1)
    replace hC := hC.keepO K_71 (fun q_ h1 h2 => pr_27 q_ h2 h1)
    replace hM := hM.keepO K_71 (fun q_ h1 h2 => pr_28 q_ h2 h1)
    replace ho_5 := ho_5.keepO K_71 (fun q_ h1 h2 => pr_29 q_ h2 h1)
    replace hO_16 := hO_16.keepO K_71 pr_23
    replace hO_41 := hO_41.keepO K_71 pr_51
    replace ho_56 := ho_56.keepO K_71 pr_64
    replace K0 := K0.new K_71 pr_30
    clear hm_72
    clear hrm_73
    refine RL.val (x_assignSl rfl) ?_
    refine RL.nil ?_
    refine Run.inBlock ?_
    refine Run.region ?_
    refine RL.val (litI (c := ((i + 1 : Nat) : Int)) (x_add rfl rfl (by omega) (by omega)) rfl) ?_
    refine RL.val (x_moveI rfl) ?_
    refine RL.nil ?_
    have hQ_83 : MgsAt w_69 (ks ++ [(⟨p.id, p.v, s_39⟩ : Pk)]) := MgsAt.snoc hO_16 ⟨hO_41, hA_42, (hM.all p hp).ok⟩ (fun q_ h1 h2 => pr_50 q_ h2 h1)
    have pr_84 : ¬ mgsS (ks ++ [(⟨p.id, p.v, s_39⟩ : Pk)]) b := fun x_ => (mgs_case _ x_).elim pr_45 (fun y_ => pr_18 y_)
    have pr_85 : ∀ q_, mgsS (ks ++ [(⟨p.id, p.v, s_39⟩ : Pk)]) q_ → ¬ one pm q_ := fun q_ x_ z_ => (mgs_case _ x_).elim (fun y_ => pr_46 q_ y_ z_) (fun y_ => (fun y_ => pr_19 q_ y_ z_) y_)
    have pr_86 : ∀ q_, mgsS (ks ++ [(⟨p.id, p.v, s_39⟩ : Pk)]) q_ → ¬ one cm q_ := fun q_ x_ z_ => (mgs_case _ x_).elim (fun y_ => pr_47 q_ y_ z_) (fun y_ => (fun y_ => pr_20 q_ y_ z_) y_)
    have pr_87 : ∀ q_, mgsS (ks ++ [(⟨p.id, p.v, s_39⟩ : Pk)]) q_ → ¬ mgsS ts q_ := fun q_ x_ z_ => (mgs_case _ x_).elim (fun y_ => pr_48 q_ y_ z_) (fun y_ => (fun y_ => pr_21 q_ y_ z_) y_)
    have pr_88 : ∀ q_, mgsS (ks ++ [(⟨p.id, p.v, s_39⟩ : Pk)]) q_ → ¬ own a_2 q_ := fun q_ x_ z_ => (mgs_case _ x_).elim (fun y_ => pr_49 q_ y_ z_) (fun y_ => (fun y_ => pr_22 q_ y_ z_) y_)
    have pr_89 : ∀ q_, mgsS (ks ++ [(⟨p.id, p.v, s_39⟩ : Pk)]) q_ → ¬ own (some ⟨b_53, 0, none⟩) q_ := fun q_ x_ z_ => (mgs_case _ x_).elim (fun y_ => (fun q_ h1 h2 => pr_65 q_ h2 h1) q_ y_ z_) (fun y_ => (fun y_ => (fun q_ h1 h2 => pr_63 q_ h2 h1) q_ y_ z_) y_)
    have pr_90 : ∀ q_, mgsS (ks ++ [(⟨p.id, p.v, s_39⟩ : Pk)]) q_ → ¬ own a_67 q_ := fun q_ x_ z_ => (mgs_case _ x_).elim (fun y_ => (fun q_ h1 h2 => pr_80 q_ h2 h1) q_ y_ z_) (fun y_ => (fun y_ => (fun q_ h1 h2 => pr_79 q_ h2 h1) q_ y_ z_) y_)
    have pg_91 : ∀ q_, mgsS (ks ++ [(⟨p.id, p.v, s_39⟩ : Pk)]) q_ → w.heap.size ≤ q_ := fun q_ x_ => (mgs_case _ x_).elim (fun y_ => pg_52 q_ y_) (fun y_ => (fun y_ => pr_24 q_ y_) y_)
    have e : (ks ++ [(⟨p.id, p.v, s_39⟩ : Pk)]).map Pk.k = (ks.map Pk.k) ++ ([(⟨p.id, (mkC p.v s_39)⟩ : PacketC)] : List PacketC) := by rw [List.map_append]; rfl
    have hks2 : (ks ++ [(⟨p.id, p.v, s_39⟩ : Pk)]).map Pk.p = (ts.map Pk.p).take (i + 1) := by rw [List.map_append, hks, List.take_succ_eq_append_getElem (by rw [p_len]; omega), (List.getElem?_eq_some_iff.1 hpp).2]; rfl
    rw [← e] at ho_70
    refine ih1 (i + 1) _ _ ?_ (by omega)
    rw [← e]
    refine ⟨_, _, (ks ++ [(⟨p.id, p.v, s_39⟩ : Pk)]), ⟨rfl, rfl, rfl, rfl, rfl, trivial⟩, K0, hB, hP, hC, hM, ho_5, hQ_83, ho_70, pr_84, pr_85, pr_86, pr_87, pr_88, pr_90, pg_91, pr_74, pr_75, pr_76, pr_77, pr_78, pg_82, ?_, ?_⟩
    · omega
    · exact hks2
  · try simp only [br] at hc17
    refine Run.exit rfl ?_
    refine Run.seq ?_
    refine Run.region ?_
    refine RL.val (x_moveSl rfl) ?_
    refine RL.val (x_assignSl rfl) ?_
    refine RL.nil ?_
    refine Run.ret1 (v := .slice (apk) ((ks.map Pk.k).length) (cpk)) Tryz.func10 rfl rfl ?_
    have hil : i = ts.length := by rw [hkx] at *; omega
    exact ⟨_, rfl, apk, cpk, ks, rfl, ho_17, hO_16, by rw [hks, List.take_of_length_le (by rw [p_len]; omega)], pr_30, pr_24, pr_23, K0⟩

set_option maxRecDepth 100000 in
set_option maxHeartbeats 4000000 in
theorem samePkt_ (i : Int) (v : MV) (s : Six) (j : Int) (u : MV) (t : Six) (w : World) (hR : SixR w s v) (hQ : SixR w t u) (hv : VOk v) :
    Calls Tryz.prog 38 #[.agg #[.int .i64 (((kC i v s)).id), .int .i64 ((((kC i v s)).msg).kind), .int .i64 ((((kC i v s)).msg).frm), .int .i64 ((((kC i v s)).msg).to), .int .i64 ((((kC i v s)).msg).req), .string ((((kC i v s)).msg).key), .slice (s.ea) (v.ent.length) (s.ec), .slice (s.ma) (v.mrk.length) (s.mc), .slice (s.ca) (v.cl.length) (s.cc), .int .i64 ((((kC i v s)).msg).owner), .int .i64 ((((kC i v s)).msg).part), .int .i64 ((((kC i v s)).msg).n), .int .i64 (((((kC i v s)).msg).ring).parts), .int .i64 (((((kC i v s)).msg).ring).copies), .int .i64 (((((kC i v s)).msg).ring).spots), .slice (s.ba) (v.mem.length) (s.bc), .slice (s.pa) (v.pe.length) (s.pc), .slice (s.sa) (v.su.length) (s.sc)], .agg #[.int .i64 (((kC j u t)).id), .int .i64 ((((kC j u t)).msg).kind), .int .i64 ((((kC j u t)).msg).frm), .int .i64 ((((kC j u t)).msg).to), .int .i64 ((((kC j u t)).msg).req), .string ((((kC j u t)).msg).key), .slice (t.ea) (u.ent.length) (t.ec), .slice (t.ma) (u.mrk.length) (t.mc), .slice (t.ca) (u.cl.length) (t.cc), .int .i64 ((((kC j u t)).msg).owner), .int .i64 ((((kC j u t)).msg).part), .int .i64 ((((kC j u t)).msg).n), .int .i64 (((((kC j u t)).msg).ring).parts), .int .i64 (((((kC j u t)).msg).ring).copies), .int .i64 (((((kC j u t)).msg).ring).spots), .slice (t.ba) (u.mem.length) (t.bc), .slice (t.pa) (u.pe.length) (t.pc), .slice (t.sa) (u.su.length) (t.sc)]] w (Ret (fun r w' => r = .bool (decide ((i, v) = (j, u))) ∧ Ext w w')) := by
  refine calls_run (n := 17) Tryz.func38 rfl rfl rfl ?_
  refine Run.seq ?_
  refine Run.region ?_
  refine RL.st rfl <| St1.box (v := .agg #[.int .i64 (((kC i v s)).id), .int .i64 ((((kC i v s)).msg).kind), .int .i64 ((((kC i v s)).msg).frm), .int .i64 ((((kC i v s)).msg).to), .int .i64 ((((kC i v s)).msg).req), .string ((((kC i v s)).msg).key), .slice (s.ea) (v.ent.length) (s.ec), .slice (s.ma) (v.mrk.length) (s.mc), .slice (s.ca) (v.cl.length) (s.cc), .int .i64 ((((kC i v s)).msg).owner), .int .i64 ((((kC i v s)).msg).part), .int .i64 ((((kC i v s)).msg).n), .int .i64 (((((kC i v s)).msg).ring).parts), .int .i64 (((((kC i v s)).msg).ring).copies), .int .i64 (((((kC i v s)).msg).ring).spots), .slice (s.ba) (v.mem.length) (s.bc), .slice (s.pa) (v.pe.length) (s.pc), .slice (s.sa) (v.su.length) (s.sc)]) rfl ?_
  intro b_1 w_2 hl_5 hb_4 K_3
  replace hb_4 : Blk w_2 b_1 [.int .i64 (((kC i v s)).id), .int .i64 ((((kC i v s)).msg).kind), .int .i64 ((((kC i v s)).msg).frm), .int .i64 ((((kC i v s)).msg).to), .int .i64 ((((kC i v s)).msg).req), .string ((((kC i v s)).msg).key), .slice (s.ea) (v.ent.length) (s.ec), .slice (s.ma) (v.mrk.length) (s.mc), .slice (s.ca) (v.cl.length) (s.cc), .int .i64 ((((kC i v s)).msg).owner), .int .i64 ((((kC i v s)).msg).part), .int .i64 ((((kC i v s)).msg).n), .int .i64 (((((kC i v s)).msg).ring).parts), .int .i64 (((((kC i v s)).msg).ring).copies), .int .i64 (((((kC i v s)).msg).ring).spots), .slice (s.ba) (v.mem.length) (s.bc), .slice (s.pa) (v.pe.length) (s.pc), .slice (s.sa) (v.su.length) (s.sc)] 59 := hb_4
  have pr_6 : ¬ rdS s v b_1 := fun h => absurd (hR.own_lt _ h) (by omega)
  have pr_7 : ¬ rdS t u b_1 := fun h => absurd (hQ.own_lt _ h) (by omega)
  have : w.heap.size ≤ b_1 := hl_5
  clear hl_5
  replace hR := hR.ext K_3
  replace hQ := hQ.ext K_3
  have K0 := (K_3 : Ext w _)
  refine RL.st rfl <| St1.box (v := .agg #[.int .i64 (((kC j u t)).id), .int .i64 ((((kC j u t)).msg).kind), .int .i64 ((((kC j u t)).msg).frm), .int .i64 ((((kC j u t)).msg).to), .int .i64 ((((kC j u t)).msg).req), .string ((((kC j u t)).msg).key), .slice (t.ea) (u.ent.length) (t.ec), .slice (t.ma) (u.mrk.length) (t.mc), .slice (t.ca) (u.cl.length) (t.cc), .int .i64 ((((kC j u t)).msg).owner), .int .i64 ((((kC j u t)).msg).part), .int .i64 ((((kC j u t)).msg).n), .int .i64 (((((kC j u t)).msg).ring).parts), .int .i64 (((((kC j u t)).msg).ring).copies), .int .i64 (((((kC j u t)).msg).ring).spots), .slice (t.ba) (u.mem.length) (t.bc), .slice (t.pa) (u.pe.length) (t.pc), .slice (t.sa) (u.su.length) (t.sc)]) rfl ?_
  intro b_8 w_9 hl_12 hb_11 K_10
  replace hb_11 : Blk w_9 b_8 [.int .i64 (((kC j u t)).id), .int .i64 ((((kC j u t)).msg).kind), .int .i64 ((((kC j u t)).msg).frm), .int .i64 ((((kC j u t)).msg).to), .int .i64 ((((kC j u t)).msg).req), .string ((((kC j u t)).msg).key), .slice (t.ea) (u.ent.length) (t.ec), .slice (t.ma) (u.mrk.length) (t.mc), .slice (t.ca) (u.cl.length) (t.cc), .int .i64 ((((kC j u t)).msg).owner), .int .i64 ((((kC j u t)).msg).part), .int .i64 ((((kC j u t)).msg).n), .int .i64 (((((kC j u t)).msg).ring).parts), .int .i64 (((((kC j u t)).msg).ring).copies), .int .i64 (((((kC j u t)).msg).ring).spots), .slice (t.ba) (u.mem.length) (t.bc), .slice (t.pa) (u.pe.length) (t.pc), .slice (t.sa) (u.su.length) (t.sc)] 59 := hb_11
  have ne_13 : b_1 < b_8 := Nat.lt_of_lt_of_le hb_4.lt hl_12
  have pr_14 : ¬ rdS s v b_8 := fun h => absurd (hR.own_lt _ h) (by omega)
  have pr_15 : ¬ rdS t u b_8 := fun h => absurd (hQ.own_lt _ h) (by omega)
  have : w.heap.size ≤ b_8 := Nat.le_trans K0.size hl_12
  clear hl_12
  replace hR := hR.ext K_10
  replace hQ := hQ.ext K_10
  replace hb_4 := hb_4.ext K_10
  replace K0 := K0.ext K_10
  refine RL.val (x_assignB rfl) ?_
  refine RL.nil ?_
  refine Run.seq ?_
  refine Run.region ?_
  refine RL.val (x_fld (o' := 0) Tryz.underlying59 rfl ty3 rfl rfl rfl) ?_
  refine RL.val (x_ld (v := .int .i64 (((kC i v s)).id)) ty3 rfl rfl (hb_4.cl.field (i := 0) rfl)) ?_
  refine RL.val (x_fld (o' := 0) Tryz.underlying59 rfl ty3 rfl rfl rfl) ?_
  refine RL.val (x_ld (v := .int .i64 (((kC j u t)).id)) ty3 rfl rfl (hb_11.cl.field (i := 0) rfl)) ?_
  refine RL.val (x_eqI rfl rfl) ?_
  refine RL.val (x_moveB rfl) ?_
  refine RL.gval (wantedT rfl rfl rfl rfl) (fun hg => (x_fld (o' := 1) Tryz.underlying59 rfl ty57 rfl rfl rfl)) ?_
  refine RL.gval (wantedT rfl rfl rfl rfl) (fun hg => (x_lds (cs := #[.int .i64 ((((kC i v s)).msg).kind), .int .i64 ((((kC i v s)).msg).frm), .int .i64 ((((kC i v s)).msg).to), .int .i64 ((((kC i v s)).msg).req), .string ((((kC i v s)).msg).key), .slice (s.ea) (v.ent.length) (s.ec), .slice (s.ma) (v.mrk.length) (s.mc), .slice (s.ca) (v.cl.length) (s.cc), .int .i64 ((((kC i v s)).msg).owner), .int .i64 ((((kC i v s)).msg).part), .int .i64 ((((kC i v s)).msg).n), .int .i64 (((((kC i v s)).msg).ring).parts), .int .i64 (((((kC i v s)).msg).ring).copies), .int .i64 (((((kC i v s)).msg).ring).spots), .slice (s.ba) (v.mem.length) (s.bc), .slice (s.pa) (v.pe.length) (s.pc), .slice (s.sa) (v.su.length) (s.sc)]) ty57 (gvr hg) rfl (hb_4.cl.drop 1 17))) ?_
  refine RL.gval (wantedT rfl rfl rfl rfl) (fun hg => (x_fld (o' := 1) Tryz.underlying59 rfl ty57 rfl rfl rfl)) ?_
  refine RL.gval (wantedT rfl rfl rfl rfl) (fun hg => (x_lds (cs := #[.int .i64 ((((kC j u t)).msg).kind), .int .i64 ((((kC j u t)).msg).frm), .int .i64 ((((kC j u t)).msg).to), .int .i64 ((((kC j u t)).msg).req), .string ((((kC j u t)).msg).key), .slice (t.ea) (u.ent.length) (t.ec), .slice (t.ma) (u.mrk.length) (t.mc), .slice (t.ca) (u.cl.length) (t.cc), .int .i64 ((((kC j u t)).msg).owner), .int .i64 ((((kC j u t)).msg).part), .int .i64 ((((kC j u t)).msg).n), .int .i64 (((((kC j u t)).msg).ring).parts), .int .i64 (((((kC j u t)).msg).ring).copies), .int .i64 (((((kC j u t)).msg).ring).spots), .slice (t.ba) (u.mem.length) (t.bc), .slice (t.pa) (u.pe.length) (t.pc), .slice (t.sa) (u.su.length) (t.sc)]) ty57 (gvr hg) rfl (hb_11.cl.drop 1 17))) ?_
  refine RL.gcall (vals := [.agg #[.int .i64 ((((kC i v s)).msg).kind), .int .i64 ((((kC i v s)).msg).frm), .int .i64 ((((kC i v s)).msg).to), .int .i64 ((((kC i v s)).msg).req), .string ((((kC i v s)).msg).key), .slice (s.ea) (v.ent.length) (s.ec), .slice (s.ma) (v.mrk.length) (s.mc), .slice (s.ca) (v.cl.length) (s.cc), .int .i64 ((((kC i v s)).msg).owner), .int .i64 ((((kC i v s)).msg).part), .int .i64 ((((kC i v s)).msg).n), .int .i64 (((((kC i v s)).msg).ring).parts), .int .i64 (((((kC i v s)).msg).ring).copies), .int .i64 (((((kC i v s)).msg).ring).spots), .slice (s.ba) (v.mem.length) (s.bc), .slice (s.pa) (v.pe.length) (s.pc), .slice (s.sa) (v.su.length) (s.sc)], .agg #[.int .i64 ((((kC j u t)).msg).kind), .int .i64 ((((kC j u t)).msg).frm), .int .i64 ((((kC j u t)).msg).to), .int .i64 ((((kC j u t)).msg).req), .string ((((kC j u t)).msg).key), .slice (t.ea) (u.ent.length) (t.ec), .slice (t.ma) (u.mrk.length) (t.mc), .slice (t.ca) (u.cl.length) (t.cc), .int .i64 ((((kC j u t)).msg).owner), .int .i64 ((((kC j u t)).msg).part), .int .i64 ((((kC j u t)).msg).n), .int .i64 (((((kC j u t)).msg).ring).parts), .int .i64 (((((kC j u t)).msg).ring).copies), .int .i64 (((((kC j u t)).msg).ring).spots), .slice (t.ba) (u.mem.length) (t.bc), .slice (t.pa) (u.pe.length) (t.pc), .slice (t.sa) (u.su.length) (t.sc)]]) (wantedT rfl rfl rfl rfl) en19 (fun hg => (mcons (gvr hg) (mcons (gvr hg) mnil))) (fun hg => (sameMsg_ v u s t _ hR hQ (by assumption))) ?_
  intro w_16 K_17
  replace hR := hR.ext K_17
  replace hQ := hQ.ext K_17
  replace hb_4 := hb_4.ext K_17
  replace hb_11 := hb_11.ext K_17
  replace K0 := K0.ext K_17
  refine RL.val (x_and rfl rfl rfl) ?_
  refine RL.val (x_assignB rfl) ?_
  refine RL.nil ?_
  refine Run.ret1 (v := .bool (((((kC i v s)).id) == (((kC j u t)).id)) && (decide (v = u)))) Tryz.func38 rfl rfl ?_
  exact ⟨_, rfl, congrArg Value.bool pairE, K0⟩

set_option maxRecDepth 100000 in
set_option maxHeartbeats 4000000 in
theorem equalFuncP (a : Option Addr) (ks : List Pk) (c : Nat) (d : Option Addr) (us : List Pk) (e : Nat) (w : World) (hs : SlOf w a (ks.map Pk.k)) (ht : SlOf w d (us.map Pk.k)) (hK : MgsAt w ks) (hU : MgsAt w us) (hl : ks.length ≤ 1048576) :
    Calls Tryz.prog 37 #[.slice (a) ((ks.map Pk.k).length) (c), .slice (d) ((us.map Pk.k).length) (e), .func (.func 38) #[] #[]] w (Ret (fun r w' => r = .bool (decide (ks.map Pk.p = us.map Pk.p)) ∧ Ext w w')) := by
  have hk1 : (ks.map Pk.k).length = ks.length := List.length_map ..
  have hu1 : (us.map Pk.k).length = us.length := List.length_map ..
  have hk2 : (ks.map Pk.p).length = ks.length := List.length_map ..
  have hu2 : (us.map Pk.p).length = us.length := List.length_map ..
  refine calls_run (n := 32) Tryz.func37 rfl rfl rfl ?_
  refine Run.seq ?_
  refine Run.region ?_
  refine RL.val (x_assignB rfl) ?_
  refine RL.nil ?_
  refine Run.seq ?_
  refine Run.seq ?_
  refine Run.region ?_
  refine RL.val (x_moveSl rfl) ?_
  refine RL.val (x_lenSl Tryz.underlying36 rfl) ?_
  refine RL.val (x_moveSl rfl) ?_
  refine RL.val (x_lenSl Tryz.underlying36 rfl) ?_
  refine RL.val (x_neI rfl rfl) ?_
  refine RL.nil ?_
  refine Run.cond rfl (fun hc14 => ?_) (fun hc14 => ?_)
  · try simp only [br] at hc14
    refine Run.seq ?_
    refine Run.region ?_
    refine RL.val (x_assignB rfl) ?_
    refine RL.nil ?_
    refine Run.ret1 (v := .bool (false)) Tryz.func37 rfl rfl ?_
    exact ⟨_, rfl, by rw [decide_eq_false (fun h => by have h2 := congrArg List.length h; omega)], (Keeps.refl _ w)⟩
  · try simp only [br] at hc14
    have hlen : ks.length = us.length := by omega
    refine Run.skip ?_
    refine Run.seq ?_
    refine Run.seq ?_
    refine Run.region ?_
    refine RL.val (x_moveSl rfl) ?_
    refine RL.val (x_lenSl Tryz.underlying36 rfl) ?_
    refine RL.val (x_moveI rfl) ?_
    refine RL.nil ?_
    refine Run.block ?_
    refine Run.loop (ι := Nat) (fun i ρ' w' => Holds ρ' [(1, .slice (d) ((us.map Pk.k).length) (e)), (2, .func (.func 38) #[] #[]), (15, .slice (a) ((ks.map Pk.k).length) (c)), (16, .int .i64 ((((ks.map Pk.k).length : Nat) : Int))), (17, .int .i64 (((i : Nat) : Int)))] ∧ Ext w w' ∧ (MgsAt w' ks) ∧ (MgsAt w' us) ∧ (i ≤ ks.length) ∧ ((ks.map Pk.p).take i = (us.map Pk.p).take i)) (fun i => ks.length - i) 0 ?_ ?_
    · refine ⟨⟨rfl, rfl, rfl, rfl, rfl, trivial⟩, (Keeps.refl _ w), hK, hU, ?_, ?_⟩
      · omega
      · rfl
    clear hK hU
    rintro i ρ_3 w_1 ⟨hH_2, K0, hK, hU, hi, hsm⟩ ih1
    obtain ⟨ρ₀, rfl⟩ := hH_2.ex
    clear hH_2
    refine Run.seq ?_
    refine Run.region ?_
    refine RL.val (x_ltI rfl rfl) ?_
    refine RL.nil ?_
    refine Run.seq ?_
    refine Run.cond rfl (fun hc18 => ?_) (fun hc18 => ?_)
    · try simp only [br] at hc18
      refine Run.skip ?_
      refine Run.seq ?_
      refine Run.block ?_
      refine Run.seq ?_
      obtain ⟨x0, hx0⟩ : ∃ x, (ks.map Pk.k)[i]? = some x := ⟨_, List.getElem?_eq_getElem (by omega)⟩
      obtain ⟨p, hp, hxe_, hpp⟩ := pk_get hx0
      subst hxe_
      refine Run.region ?_
      refine RL.val (x_moveI rfl) ?_
      obtain ⟨b_4, o_5, x_8, hx_9, ha_6, hc_7⟩ := hs.el (i := i) (by first | omega | (simp only [List.length_set]; omega))
      have hc_7_lt := hc_7.lt
      replace hc_7 := hc_7.ext K0
      obtain rfl : (kC p.id p.v p.s) = x_8 := Option.some.inj (hx0.symm.trans hx_9)
      refine RL.val (x_idxN Tryz.underlying36 ty59 rfl rfl ha_6 (by first | omega | (simp only [List.length_set]; omega))) ?_
      refine RL.val (x_ldV (v := .agg #[.int .i64 (((kC p.id p.v p.s)).id), .int .i64 ((((kC p.id p.v p.s)).msg).kind), .int .i64 ((((kC p.id p.v p.s)).msg).frm), .int .i64 ((((kC p.id p.v p.s)).msg).to), .int .i64 ((((kC p.id p.v p.s)).msg).req), .string ((((kC p.id p.v p.s)).msg).key), .slice (p.s.ea) (p.v.ent.length) (p.s.ec), .slice (p.s.ma) (p.v.mrk.length) (p.s.mc), .slice (p.s.ca) (p.v.cl.length) (p.s.cc), .int .i64 ((((kC p.id p.v p.s)).msg).owner), .int .i64 ((((kC p.id p.v p.s)).msg).part), .int .i64 ((((kC p.id p.v p.s)).msg).n), .int .i64 (((((kC p.id p.v p.s)).msg).ring).parts), .int .i64 (((((kC p.id p.v p.s)).msg).ring).copies), .int .i64 (((((kC p.id p.v p.s)).msg).ring).spots), .slice (p.s.ba) (p.v.mem.length) (p.s.bc), .slice (p.s.pa) (p.v.pe.length) (p.s.pc), .slice (p.s.sa) (p.v.su.length) (p.s.sc)]) (y := (kC p.id p.v p.s)) ty59 rfl hc_7 rfl) ?_
      refine RL.st rfl <| St1.alloc ty59 ?_
      intro b_10 w_11 hl_14 hb_13 K_12
      replace hb_13 : Blk w_11 b_10 [.int .i64 (0), .int .i64 (0), .int .i64 (0), .int .i64 (0), .int .i64 (0), .string (⟨#[]⟩), .slice (none) (0) (0), .slice (none) (0) (0), .slice (none) (0) (0), .int .i64 (0), .int .i64 (0), .int .i64 (0), .int .i64 (0), .int .i64 (0), .int .i64 (0), .slice (none) (0) (0), .slice (none) (0) (0), .slice (none) (0) (0)] 59 := hb_13
      have ne_15 : b_4 < b_10 := Nat.lt_of_lt_of_le hc_7.lt hl_14
      have pr_16 : ¬ mgsS ks b_10 := fun h => absurd (hK.own_lt _ h) (by omega)
      have pr_17 : ¬ mgsS us b_10 := fun h => absurd (hU.own_lt _ h) (by omega)
      have : w.heap.size ≤ b_10 := Nat.le_trans K0.size hl_14
      clear hl_14
      replace hK := hK.ext K_12
      replace hU := hU.ext K_12
      replace hc_7 := hc_7.ext K_12
      replace K0 := K0.ext K_12
      refine RL.val (x_assignI rfl) ?_
      refine RL.st rfl <| St1.store (v := .agg #[.int .i64 (((kC p.id p.v p.s)).id), .int .i64 ((((kC p.id p.v p.s)).msg).kind), .int .i64 ((((kC p.id p.v p.s)).msg).frm), .int .i64 ((((kC p.id p.v p.s)).msg).to), .int .i64 ((((kC p.id p.v p.s)).msg).req), .string ((((kC p.id p.v p.s)).msg).key), .slice (p.s.ea) (p.v.ent.length) (p.s.ec), .slice (p.s.ma) (p.v.mrk.length) (p.s.mc), .slice (p.s.ca) (p.v.cl.length) (p.s.cc), .int .i64 ((((kC p.id p.v p.s)).msg).owner), .int .i64 ((((kC p.id p.v p.s)).msg).part), .int .i64 ((((kC p.id p.v p.s)).msg).n), .int .i64 (((((kC p.id p.v p.s)).msg).ring).parts), .int .i64 (((((kC p.id p.v p.s)).msg).ring).copies), .int .i64 (((((kC p.id p.v p.s)).msg).ring).spots), .slice (p.s.ba) (p.v.mem.length) (p.s.bc), .slice (p.s.pa) (p.v.pe.length) (p.s.pc), .slice (p.s.sa) (p.v.su.length) (p.s.sc)]) ty59 rfl rfl rfl (by simp [Value.cells, Value.oneCell']) hb_13 (by simp) ?_
      intro w_18 hb_13_ K_19
      have hb_13' : Blk w_18 b_10 [.int .i64 (((kC p.id p.v p.s)).id), .int .i64 ((((kC p.id p.v p.s)).msg).kind), .int .i64 ((((kC p.id p.v p.s)).msg).frm), .int .i64 ((((kC p.id p.v p.s)).msg).to), .int .i64 ((((kC p.id p.v p.s)).msg).req), .string ((((kC p.id p.v p.s)).msg).key), .slice (p.s.ea) (p.v.ent.length) (p.s.ec), .slice (p.s.ma) (p.v.mrk.length) (p.s.mc), .slice (p.s.ca) (p.v.cl.length) (p.s.cc), .int .i64 ((((kC p.id p.v p.s)).msg).owner), .int .i64 ((((kC p.id p.v p.s)).msg).part), .int .i64 ((((kC p.id p.v p.s)).msg).n), .int .i64 (((((kC p.id p.v p.s)).msg).ring).parts), .int .i64 (((((kC p.id p.v p.s)).msg).ring).copies), .int .i64 (((((kC p.id p.v p.s)).msg).ring).spots), .slice (p.s.ba) (p.v.mem.length) (p.s.bc), .slice (p.s.pa) (p.v.pe.length) (p.s.pc), .slice (p.s.sa) (p.v.su.length) (p.s.sc)] 59 := hb_13_
      clear hb_13_
      replace hK := hK.keepO K_19 (fun q_ hq_ eq_ => pr_16 (by simp only [one] at eq_; rw [← eq_]; exact hq_))
      replace hU := hU.keepO K_19 (fun q_ hq_ eq_ => pr_17 (by simp only [one] at eq_; rw [← eq_]; exact hq_))
      replace hc_7 := hc_7.keep K_19 (by simp only [one]; omega)
      replace K0 := K0.new K_19 (fun x hx => by simp only [one] at hx; omega)
      replace hb_13 := hb_13'
      clear hb_13'
      refine RL.nil ?_
      refine Run.seq ?_
      obtain ⟨y0, hy0⟩ : ∃ x, (us.map Pk.k)[i]? = some x := ⟨_, List.getElem?_eq_getElem (by omega)⟩
      obtain ⟨q, hq, hxe_, hqp⟩ := pk_get hy0
      subst hxe_
      refine Run.region ?_
      refine RL.val (x_moveSl rfl) ?_
      refine RL.val (x_moveI rfl) ?_
      obtain ⟨b_20, o_21, x_24, hx_25, ha_22, hc_23⟩ := ht.el (i := i) (by first | omega | (simp only [List.length_set]; omega))
      have hc_23_lt := hc_23.lt
      replace hc_23 := hc_23.ext K0
      obtain rfl : (kC q.id q.v q.s) = x_24 := Option.some.inj (hy0.symm.trans hx_25)
      refine RL.val (x_idxN Tryz.underlying36 ty59 rfl rfl ha_22 (by first | omega | (simp only [List.length_set]; omega))) ?_
      refine RL.val (x_ldV (v := .agg #[.int .i64 (((kC q.id q.v q.s)).id), .int .i64 ((((kC q.id q.v q.s)).msg).kind), .int .i64 ((((kC q.id q.v q.s)).msg).frm), .int .i64 ((((kC q.id q.v q.s)).msg).to), .int .i64 ((((kC q.id q.v q.s)).msg).req), .string ((((kC q.id q.v q.s)).msg).key), .slice (q.s.ea) (q.v.ent.length) (q.s.ec), .slice (q.s.ma) (q.v.mrk.length) (q.s.mc), .slice (q.s.ca) (q.v.cl.length) (q.s.cc), .int .i64 ((((kC q.id q.v q.s)).msg).owner), .int .i64 ((((kC q.id q.v q.s)).msg).part), .int .i64 ((((kC q.id q.v q.s)).msg).n), .int .i64 (((((kC q.id q.v q.s)).msg).ring).parts), .int .i64 (((((kC q.id q.v q.s)).msg).ring).copies), .int .i64 (((((kC q.id q.v q.s)).msg).ring).spots), .slice (q.s.ba) (q.v.mem.length) (q.s.bc), .slice (q.s.pa) (q.v.pe.length) (q.s.pc), .slice (q.s.sa) (q.v.su.length) (q.s.sc)]) (y := (kC q.id q.v q.s)) ty59 rfl hc_23 rfl) ?_
      refine RL.st rfl <| St1.alloc ty59 ?_
      intro b_26 w_27 hl_30 hb_29 K_28
      replace hb_29 : Blk w_27 b_26 [.int .i64 (0), .int .i64 (0), .int .i64 (0), .int .i64 (0), .int .i64 (0), .string (⟨#[]⟩), .slice (none) (0) (0), .slice (none) (0) (0), .slice (none) (0) (0), .int .i64 (0), .int .i64 (0), .int .i64 (0), .int .i64 (0), .int .i64 (0), .int .i64 (0), .slice (none) (0) (0), .slice (none) (0) (0), .slice (none) (0) (0)] 59 := hb_29
      have ne_31 : b_10 < b_26 := Nat.lt_of_lt_of_le hb_13.lt hl_30
      have ne_32 : b_20 < b_26 := Nat.lt_of_lt_of_le hc_23.lt hl_30
      have pr_33 : ¬ mgsS ks b_26 := fun h => absurd (hK.own_lt _ h) (by omega)
      have pr_34 : ¬ mgsS us b_26 := fun h => absurd (hU.own_lt _ h) (by omega)
      have : w.heap.size ≤ b_26 := Nat.le_trans K0.size hl_30
      clear hl_30
      replace hK := hK.ext K_28
      replace hU := hU.ext K_28
      replace hb_13 := hb_13.ext K_28
      replace hc_23 := hc_23.ext K_28
      replace K0 := K0.ext K_28
      refine RL.st rfl <| St1.store (v := .agg #[.int .i64 (((kC q.id q.v q.s)).id), .int .i64 ((((kC q.id q.v q.s)).msg).kind), .int .i64 ((((kC q.id q.v q.s)).msg).frm), .int .i64 ((((kC q.id q.v q.s)).msg).to), .int .i64 ((((kC q.id q.v q.s)).msg).req), .string ((((kC q.id q.v q.s)).msg).key), .slice (q.s.ea) (q.v.ent.length) (q.s.ec), .slice (q.s.ma) (q.v.mrk.length) (q.s.mc), .slice (q.s.ca) (q.v.cl.length) (q.s.cc), .int .i64 ((((kC q.id q.v q.s)).msg).owner), .int .i64 ((((kC q.id q.v q.s)).msg).part), .int .i64 ((((kC q.id q.v q.s)).msg).n), .int .i64 (((((kC q.id q.v q.s)).msg).ring).parts), .int .i64 (((((kC q.id q.v q.s)).msg).ring).copies), .int .i64 (((((kC q.id q.v q.s)).msg).ring).spots), .slice (q.s.ba) (q.v.mem.length) (q.s.bc), .slice (q.s.pa) (q.v.pe.length) (q.s.pc), .slice (q.s.sa) (q.v.su.length) (q.s.sc)]) ty59 rfl rfl rfl (by simp [Value.cells, Value.oneCell']) hb_29 (by simp) ?_
      intro w_35 hb_29_ K_36
      have hb_29' : Blk w_35 b_26 [.int .i64 (((kC q.id q.v q.s)).id), .int .i64 ((((kC q.id q.v q.s)).msg).kind), .int .i64 ((((kC q.id q.v q.s)).msg).frm), .int .i64 ((((kC q.id q.v q.s)).msg).to), .int .i64 ((((kC q.id q.v q.s)).msg).req), .string ((((kC q.id q.v q.s)).msg).key), .slice (q.s.ea) (q.v.ent.length) (q.s.ec), .slice (q.s.ma) (q.v.mrk.length) (q.s.mc), .slice (q.s.ca) (q.v.cl.length) (q.s.cc), .int .i64 ((((kC q.id q.v q.s)).msg).owner), .int .i64 ((((kC q.id q.v q.s)).msg).part), .int .i64 ((((kC q.id q.v q.s)).msg).n), .int .i64 (((((kC q.id q.v q.s)).msg).ring).parts), .int .i64 (((((kC q.id q.v q.s)).msg).ring).copies), .int .i64 (((((kC q.id q.v q.s)).msg).ring).spots), .slice (q.s.ba) (q.v.mem.length) (q.s.bc), .slice (q.s.pa) (q.v.pe.length) (q.s.pc), .slice (q.s.sa) (q.v.su.length) (q.s.sc)] 59 := hb_29_
      clear hb_29_
      replace hK := hK.keepO K_36 (fun q_ hq_ eq_ => pr_33 (by simp only [one] at eq_; rw [← eq_]; exact hq_))
      replace hU := hU.keepO K_36 (fun q_ hq_ eq_ => pr_34 (by simp only [one] at eq_; rw [← eq_]; exact hq_))
      replace hb_13 := hb_13.keep K_36 (by simp only [one]; omega)
      replace hc_23 := hc_23.keep K_36 (by simp only [one]; omega)
      replace K0 := K0.new K_36 (fun x hx => by simp only [one] at hx; omega)
      replace hb_29 := hb_29'
      clear hb_29'
      refine RL.nil ?_
      refine Run.seq ?_
      refine Run.region ?_
      refine RL.val (x_moveF rfl) ?_
      refine RL.val (x_lds (cs := #[.int .i64 (((kC p.id p.v p.s)).id), .int .i64 ((((kC p.id p.v p.s)).msg).kind), .int .i64 ((((kC p.id p.v p.s)).msg).frm), .int .i64 ((((kC p.id p.v p.s)).msg).to), .int .i64 ((((kC p.id p.v p.s)).msg).req), .string ((((kC p.id p.v p.s)).msg).key), .slice (p.s.ea) (p.v.ent.length) (p.s.ec), .slice (p.s.ma) (p.v.mrk.length) (p.s.mc), .slice (p.s.ca) (p.v.cl.length) (p.s.cc), .int .i64 ((((kC p.id p.v p.s)).msg).owner), .int .i64 ((((kC p.id p.v p.s)).msg).part), .int .i64 ((((kC p.id p.v p.s)).msg).n), .int .i64 (((((kC p.id p.v p.s)).msg).ring).parts), .int .i64 (((((kC p.id p.v p.s)).msg).ring).copies), .int .i64 (((((kC p.id p.v p.s)).msg).ring).spots), .slice (p.s.ba) (p.v.mem.length) (p.s.bc), .slice (p.s.pa) (p.v.pe.length) (p.s.pc), .slice (p.s.sa) (p.v.su.length) (p.s.sc)]) ty59 rfl rfl (hb_13.cl.drop 0 18)) ?_
      refine RL.val (x_lds (cs := #[.int .i64 (((kC q.id q.v q.s)).id), .int .i64 ((((kC q.id q.v q.s)).msg).kind), .int .i64 ((((kC q.id q.v q.s)).msg).frm), .int .i64 ((((kC q.id q.v q.s)).msg).to), .int .i64 ((((kC q.id q.v q.s)).msg).req), .string ((((kC q.id q.v q.s)).msg).key), .slice (q.s.ea) (q.v.ent.length) (q.s.ec), .slice (q.s.ma) (q.v.mrk.length) (q.s.mc), .slice (q.s.ca) (q.v.cl.length) (q.s.cc), .int .i64 ((((kC q.id q.v q.s)).msg).owner), .int .i64 ((((kC q.id q.v q.s)).msg).part), .int .i64 ((((kC q.id q.v q.s)).msg).n), .int .i64 (((((kC q.id q.v q.s)).msg).ring).parts), .int .i64 (((((kC q.id q.v q.s)).msg).ring).copies), .int .i64 (((((kC q.id q.v q.s)).msg).ring).spots), .slice (q.s.ba) (q.v.mem.length) (q.s.bc), .slice (q.s.pa) (q.v.pe.length) (q.s.pc), .slice (q.s.sa) (q.v.su.length) (q.s.sc)]) ty59 rfl rfl (hb_29.cl.drop 0 18)) ?_
      refine RL.st rfl <| St1.callV (vals := [.agg #[.int .i64 (((kC p.id p.v p.s)).id), .int .i64 ((((kC p.id p.v p.s)).msg).kind), .int .i64 ((((kC p.id p.v p.s)).msg).frm), .int .i64 ((((kC p.id p.v p.s)).msg).to), .int .i64 ((((kC p.id p.v p.s)).msg).req), .string ((((kC p.id p.v p.s)).msg).key), .slice (p.s.ea) (p.v.ent.length) (p.s.ec), .slice (p.s.ma) (p.v.mrk.length) (p.s.mc), .slice (p.s.ca) (p.v.cl.length) (p.s.cc), .int .i64 ((((kC p.id p.v p.s)).msg).owner), .int .i64 ((((kC p.id p.v p.s)).msg).part), .int .i64 ((((kC p.id p.v p.s)).msg).n), .int .i64 (((((kC p.id p.v p.s)).msg).ring).parts), .int .i64 (((((kC p.id p.v p.s)).msg).ring).copies), .int .i64 (((((kC p.id p.v p.s)).msg).ring).spots), .slice (p.s.ba) (p.v.mem.length) (p.s.bc), .slice (p.s.pa) (p.v.pe.length) (p.s.pc), .slice (p.s.sa) (p.v.su.length) (p.s.sc)], .agg #[.int .i64 (((kC q.id q.v q.s)).id), .int .i64 ((((kC q.id q.v q.s)).msg).kind), .int .i64 ((((kC q.id q.v q.s)).msg).frm), .int .i64 ((((kC q.id q.v q.s)).msg).to), .int .i64 ((((kC q.id q.v q.s)).msg).req), .string ((((kC q.id q.v q.s)).msg).key), .slice (q.s.ea) (q.v.ent.length) (q.s.ec), .slice (q.s.ma) (q.v.mrk.length) (q.s.mc), .slice (q.s.ca) (q.v.cl.length) (q.s.cc), .int .i64 ((((kC q.id q.v q.s)).msg).owner), .int .i64 ((((kC q.id q.v q.s)).msg).part), .int .i64 ((((kC q.id q.v q.s)).msg).n), .int .i64 (((((kC q.id q.v q.s)).msg).ring).parts), .int .i64 (((((kC q.id q.v q.s)).msg).ring).copies), .int .i64 (((((kC q.id q.v q.s)).msg).ring).spots), .slice (q.s.ba) (q.v.mem.length) (q.s.bc), .slice (q.s.pa) (q.v.pe.length) (q.s.pc), .slice (q.s.sa) (q.v.su.length) (q.s.sc)]]) en38 rfl rfl (samePkt_ p.id p.v p.s q.id q.v q.s _ ((hK.all p (List.mem_of_getElem? hp)).own.r) ((hU.all q (List.mem_of_getElem? hq)).own.r) (hK.all p (List.mem_of_getElem? hp)).ok) ?_
      rintro _ w_37 ⟨rfl, K_38⟩
      replace hK := hK.ext K_38
      replace hU := hU.ext K_38
      replace hb_13 := hb_13.ext K_38
      replace hb_29 := hb_29.ext K_38
      replace K0 := K0.ext K_38
      refine RL.val (x_not rfl) ?_
      refine RL.nil ?_
      refine Run.cond rfl (fun hc30 => ?_) (fun hc30 => ?_)
      · try simp only [br] at hc30
        refine Run.seq ?_
        refine Run.region ?_
        refine RL.val (x_assignB rfl) ?_
        refine RL.nil ?_
        refine Run.ret1 (v := .bool (false)) Tryz.func37 rfl rfl ?_
        exact ⟨_, rfl, by rw [decide_eq_false (ne_take hpp hqp (by first | exact hc30 | simpa using hc30))], K0⟩
      · try simp only [br] at hc30
        refine Run.skip ?_
        refine Run.inBlock ?_
        refine Run.region ?_
        refine RL.val (litI (c := ((i + 1 : Nat) : Int)) (x_add rfl rfl (by omega) (by omega)) rfl) ?_
        refine RL.val (x_moveI rfl) ?_
        refine RL.nil ?_
        refine ih1 (i + 1) _ _ ?_ (by omega)
        refine ⟨⟨rfl, rfl, rfl, rfl, rfl, trivial⟩, K0, hK, hU, ?_, ?_⟩
        · omega
        · exact take_eq hsm hpp (by rw [show p.p = q.p by (first | exact hc30 | simpa using hc30)]; exact hqp)
    · try simp only [br] at hc18
      refine Run.exit rfl ?_
      refine Run.seq ?_
      refine Run.region ?_
      refine RL.val (x_assignB rfl) ?_
      refine RL.nil ?_
      refine Run.ret1 (v := .bool (true)) Tryz.func37 rfl rfl ?_
      exact ⟨_, rfl, by rw [decide_eq_true (all_eq hsm (by omega) (by omega))], K0⟩

set_option maxRecDepth 100000 in
set_option maxHeartbeats 4000000 in
theorem samePackets_ (a : Option Addr) (ks : List Pk) (c : Nat) (d : Option Addr) (us : List Pk) (e : Nat) (w : World) (hs : SlOf w a (ks.map Pk.k)) (ht : SlOf w d (us.map Pk.k)) (hK : MgsAt w ks) (hU : MgsAt w us) (hl : ks.length ≤ 1048576) :
    Calls Tryz.prog 11 #[.slice (a) ((ks.map Pk.k).length) (c), .slice (d) ((us.map Pk.k).length) (e)] w (Ret (fun r w' => r = .bool (decide (ks.map Pk.p = us.map Pk.p)) ∧ Ext w w')) := by
  have hk1 : (ks.map Pk.k).length = ks.length := List.length_map ..
  have hu1 : (us.map Pk.k).length = us.length := List.length_map ..
  have hk2 : (ks.map Pk.p).length = ks.length := List.length_map ..
  have hu2 : (us.map Pk.p).length = us.length := List.length_map ..
  refine calls_run (n := 8) Tryz.func11 rfl rfl rfl ?_
  refine Run.seq ?_
  refine Run.region ?_
  refine RL.val (x_assignB rfl) ?_
  refine RL.nil ?_
  refine Run.seq ?_
  refine Run.region ?_
  refine RL.val (x_moveSl rfl) ?_
  refine RL.val (x_moveSl rfl) ?_
  refine RL.st rfl <| St1.call (vals := [.slice (a) ((ks.map Pk.k).length) (c), .slice (d) ((us.map Pk.k).length) (e), .func (.func 38) #[] #[]]) en37 rfl (equalFuncP _ ks _ _ us _ _ hs ht hK hU hl) ?_
  rintro _ w_1 ⟨rfl, K_2⟩
  replace hK := hK.ext K_2
  replace hU := hU.ext K_2
  have K0 := (K_2 : Ext w _)
  refine RL.val (x_assignB rfl) ?_
  refine RL.nil ?_
  refine Run.ret1 (v := .bool (decide (ks.map Pk.p = us.map Pk.p))) Tryz.func11 rfl rfl ?_
  exact ⟨_, rfl, rfl, K0⟩

end Go.Proofs.YtdlaoncjiolckaaGreat
