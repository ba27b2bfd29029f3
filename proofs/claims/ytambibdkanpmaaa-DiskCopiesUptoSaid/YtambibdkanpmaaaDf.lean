/-
  Layer 2's walks, fifth part.
-/
import Derived.Test.YtambibdkanpmaaaRows
import Derived.Test.YtambibdkanpmaaaDe
import Derived.Test.YtambibdkanpmaaaStr
namespace Go.Proofs.Ytambibdkanpmaaa
attribute [local irreducible] St1 RL RA RT RT1 Run

theorem erase_perm {α : Type} {l : List α} {j : Nat} {f : α} (h : l[j]? = some f) : (f :: l.eraseIdx j).Perm l := by
  induction l generalizing j with
  | nil => simp at h
  | cons x l ih =>
    cases j with
    | zero => simp at h; subst h; exact List.Perm.refl _
    | succ j => simp at h; rw [List.eraseIdx_cons_succ]; exact (List.Perm.swap x f _).trans ((ih h).cons x)
theorem copy_perm {gs rs fs : List FileS} {j : Nat} {f : FileS} (h : ((gs ++ rs).map FileS.p).Perm (fs.map FileS.p)) (hf : rs[j]? = some f) (f' : FileS) (e : f'.p = f.p) : (((gs ++ [f']) ++ rs.eraseIdx j).map FileS.p).Perm (fs.map FileS.p) := by
  refine List.Perm.trans ?_ h
  simp only [List.append_assoc, List.map_append, List.map_cons, List.map_nil, e]
  refine List.Perm.append_left _ ?_
  rw [List.singleton_append, ← List.map_cons]
  exact (erase_perm hf).map _
theorem copy_no {gs rs fs : List FileS} {j : Nat} {f : FileS} (hn : (fs.map (·.name)).Nodup) (h : ((gs ++ rs).map FileS.p).Perm (fs.map FileS.p)) (hf : rs[j]? = some f) : ∀ x ∈ gs, x.name ≠ f.name := by
  have h1 : (((gs ++ rs).map FileS.p).map (·.name)).Nodup := (h.map _).nodup_iff.2 (by rw [pl_keys]; exact hn)
  rw [pl_keys, List.map_append] at h1
  intro x hx e
  exact (List.nodup_append.1 h1).2.2 _ (List.mem_map.2 ⟨x, hx, rfl⟩) _ (List.mem_map.2 ⟨f, List.mem_of_getElem? hf, rfl⟩) e



set_option maxRecDepth 100000 in
set_option maxHeartbeats 4000000 in
theorem copy_ (d m : Nat) (room : Int) (fs : List FileS) (w : World) (hD : DiskO w d m room fs) :
    Calls Try.prog 16 #[.pointer (some ⟨d, 0, none⟩)] w (Ret (fun v w' => ∃ d2 m2 gs, v = .pointer (some ⟨d2, 0, none⟩) ∧ DiskO w' d2 m2 room gs ∧ (gs.map FileS.p).Perm (fs.map FileS.p) ∧ (∀ q, diskS d2 m2 gs q → w.heap.size ≤ q) ∧ Ext w w')) := by
  obtain ⟨hB, hM, hF, hmd, hfd, hfm, hok⟩ := hD
  have hnd := DiskO.names hok
  have hlens := PLOk.lens hok
  have hroom := hok.room
  have hused := hok.used
  have hcnt := hok.len
  rw [List.length_map] at hcnt
  refine calls_run (n := 43) Try.func16 rfl rfl rfl ?_
  refine Run.seq ?_
  refine Run.region ?_
  refine RL.val (x_assignP rfl) ?_
  refine RL.nil ?_
  refine Run.seq ?_
  refine Run.seq ?_
  refine Run.region ?_
  refine RL.val (x_moveP rfl) ?_
  refine RL.st rfl <| St1.call (vals := [.pointer (some ⟨d, 0, none⟩)]) en38 rfl (made_ d m room fs _ (⟨hB, hM, hF, hmd, hfd, hfm, hok⟩ : DiskO _ d m room fs)) ?_
  rintro _ _ ⟨rfl, rfl⟩
  refine RL.val (x_not rfl) ?_
  refine RL.nil ?_
  refine Run.condF rfl ?_
  refine Run.skip ?_
  refine Run.seq ?_
  refine Run.region ?_
  refine RL.st rfl <| St1.makeMap (κ := ByteArray) ?_
  intro m_1 w_2 hl_3 hM_4 K_5
  have pr_6 : ¬ one m_1 d := notNew (ge_one hl_3) hB.lt
  have pr_7 : ∀ q_, one m_1 q_ → ¬ one m q_ := apartNew (ge_one hl_3) hM.own_lt
  have pr_8 : ∀ q_, one m_1 q_ → ¬ filesS fs q_ := apartNew (ge_one hl_3) hF.own_lt
  have pg_9 : ∀ q_, one m_1 q_ → w.heap.size ≤ q_ := fun q_ h => Nat.le_trans (Nat.le_refl _) ((ge_one hl_3) q_ h)
  clear hl_3
  replace hB := hB.ext K_5
  replace hM := hM.ext K_5
  replace hF := hF.ext K_5
  have K0 := (K_5 : Ext w _)
  refine RL.val (x_moveP rfl) ?_
  refine RL.val (x_nilCheck rfl) ?_
  refine RL.val (x_fld (o' := 1) Try.underlying45 rfl ty3 rfl rfl rfl) ?_
  refine RL.val (x_ld (v := .int .i64 (room)) ty3 rfl rfl (hB.cl.field (i := 1) rfl)) ?_
  refine RL.val (x_build (cells := #[.map (some m_1), .int .i64 (room)]) (by kernel_rfl)) ?_
  refine RL.st rfl <| St1.box (v := .agg #[.map (some m_1), .int .i64 (room)]) rfl ?_
  intro b_10 w_11 hl_14 hb_13 K_12
  replace hb_13 : Blk w_11 b_10 [.map (some m_1), .int .i64 (room)] 45 := hb_13
  have ne_15 : d < b_10 := Nat.lt_of_lt_of_le hB.lt hl_14
  have pr_16 : ¬ one m b_10 := fun h => absurd (hM.own_lt _ h) (by omega)
  have pr_17 : ¬ filesS fs b_10 := fun h => absurd (hF.own_lt _ h) (by omega)
  have pr_18 : ¬ one m_1 b_10 := fun h => absurd (hM_4.own_lt _ h) (by omega)
  have : w.heap.size ≤ b_10 := Nat.le_trans K0.size hl_14
  clear hl_14
  replace hB := hB.ext K_12
  replace hM := hM.ext K_12
  replace hF := hF.ext K_12
  replace hM_4 := hM_4.ext K_12
  replace K0 := K0.ext K_12
  refine RL.val (x_assignP rfl) ?_
  refine RL.nil ?_
  have hG := FilesAt.nil w_11
  refine Run.seq ?_
  refine Run.seq ?_
  refine Run.region ?_
  refine RL.val (x_moveP rfl) ?_
  refine RL.val (x_nilCheck rfl) ?_
  refine RL.val (x_fld (o' := 0) Try.underlying45 rfl ty43 rfl rfl rfl) ?_
  refine RL.val (x_ld (v := .map (some m)) ty43 rfl rfl (hB.cl.field (i := 0) rfl)) ?_
  refine RL.st rfl <| St1.rangeMap Try.underlying43 rfl hM ?_
  intro r_19 w_20 hl_21 hI_22 K_23
  have pr_24 : ¬ one r_19 d := notNew (ge_one hl_21) hB.lt
  have pr_25 : ∀ q_, one r_19 q_ → ¬ one m q_ := apartNew (ge_one hl_21) hM.own_lt
  have pr_26 : ∀ q_, one r_19 q_ → ¬ filesS fs q_ := apartNew (ge_one hl_21) hF.own_lt
  have pr_27 : ∀ q_, one r_19 q_ → ¬ one m_1 q_ := apartNew (ge_one hl_21) hM_4.own_lt
  have pr_28 : ¬ one r_19 b_10 := notNew (ge_one hl_21) hb_13.lt
  have pr_29 : ∀ q_, one r_19 q_ → ¬ filesS ([] : List FileS) q_ := apartNew (ge_one hl_21) hG.own_lt
  have pg_30 : ∀ q_, one r_19 q_ → w.heap.size ≤ q_ := fun q_ h => Nat.le_trans K0.size ((ge_one hl_21) q_ h)
  clear hl_21
  replace hB := hB.ext K_23
  replace hM := hM.ext K_23
  replace hF := hF.ext K_23
  replace hM_4 := hM_4.ext K_23
  replace hb_13 := hb_13.ext K_23
  replace hG := hG.ext K_23
  replace K0 := K0.ext K_23
  refine RL.nil ?_
  refine Run.block ?_
  refine Run.loop (ι := Nat) (fun k ρ' w' => ∃ rs : List FileS, ∃ gs : List FileS, ∃ la : Option (ByteArray × Value), Holds ρ' [(3, .pointer (some ⟨b_10, 0, none⟩)), (20, .pointer (some ⟨r_19, 0, none⟩))] ∧ Ext w w' ∧ (Blk w' d [.map (some m), .int .i64 (room)] 45) ∧ (Blk w' b_10 [.map (some m_1), .int .i64 (room)] 45) ∧ (MapAt w' m (ents fs)) ∧ (FilesAt w' fs) ∧ (IterAt w' r_19 m (ents rs) la) ∧ (MapAt w' m_1 (ents gs)) ∧ (FilesAt w' gs) ∧ (¬ one r_19 d) ∧ (¬ one r_19 b_10) ∧ (∀ q_, one r_19 q_ → ¬ one m q_) ∧ (∀ q_, one r_19 q_ → ¬ filesS fs q_) ∧ (∀ q_, one r_19 q_ → ¬ one m_1 q_) ∧ (∀ q_, one r_19 q_ → ¬ filesS gs q_) ∧ (∀ q_, one r_19 q_ → w.heap.size ≤ q_) ∧ (¬ one m_1 d) ∧ (¬ one m_1 b_10) ∧ (∀ q_, one m_1 q_ → ¬ one m q_) ∧ (∀ q_, one m_1 q_ → ¬ filesS fs q_) ∧ (∀ q_, one m_1 q_ → ¬ filesS gs q_) ∧ (∀ q_, one m_1 q_ → w.heap.size ≤ q_) ∧ (¬ filesS gs d) ∧ (¬ filesS gs b_10) ∧ (∀ q_, filesS gs q_ → ¬ one m q_) ∧ (∀ q_, filesS gs q_ → ¬ filesS fs q_) ∧ (∀ q_, filesS gs q_ → w.heap.size ≤ q_) ∧ (k = rs.length) ∧ (((gs ++ rs).map FileS.p).Perm (fs.map FileS.p)) ∧ (∀ f ∈ rs, f ∈ fs)) (fun k => k) fs.length ?_ ?_
  · refine ⟨fs, [], none, ⟨rfl, rfl, trivial⟩, K0, hB, hb_13, hM, hF, hI_22, hM_4, hG, pr_24, pr_28, pr_25, pr_26, pr_27, pr_29, pg_30, pr_6, pr_18, pr_7, pr_8, (fun q_ h1 h2 => (fun q_ ⟨_, h_, _⟩ _ => absurd h_ (by simp)) q_ h2 h1), pg_9, (fun ⟨_, h_, _⟩ => absurd h_ (by simp)), (fun ⟨_, h_, _⟩ => absurd h_ (by simp)), (fun q_ ⟨_, h_, _⟩ _ => absurd h_ (by simp)), (fun q_ ⟨_, h_, _⟩ _ => absurd h_ (by simp)), (fun q_ ⟨_, h_, _⟩ => absurd h_ (by simp)), ?_, ?_, ?_⟩
    · rfl
    · exact List.Perm.refl _
    · exact fun f h => h
  clear hB hM hF hM_4 hb_13 hG hI_22
  clear K0
  rintro k ρ_54 w_31 ⟨rs, gs, la, hH_32, K0, hB, hb_13, hM, hF, hO_33, hO_34, hO_35, pr_36, pr_37, pr_38, pr_39, pr_40, pr_41, pr_42, pr_43, pr_44, pr_45, pr_46, pr_47, pr_48, pr_49, pr_50, pr_51, pr_52, pr_53, hk, hgp, hsub⟩ ih1
  obtain ⟨ρ₀, rfl⟩ := hH_32.ex
  clear hH_32
  refine Run.seq ?_
  refine Run.region ?_
  refine RL.st rfl <| St1.nextMap rfl hO_33 ?_ ?_
  · intro h0_55
    replace h0_55 : rs = [] := by simpa [ents] using h0_55
    refine RL.val (x_extract rfl rfl) ?_
    refine RL.nil ?_
    refine Run.seq ?_
    refine Run.condF rfl ?_
    refine Run.exit rfl ?_
    refine Run.seq ?_
    have h0_ := h0_55
    refine Run.region ?_
    refine RL.val (x_moveP rfl) ?_
    refine RL.val (x_assignP rfl) ?_
    refine RL.nil ?_
    refine Run.ret1 (v := .pointer (some ⟨b_10, 0, none⟩)) Try.func16 rfl rfl ?_
    rw [h0_, List.append_nil] at hgp
    exact ⟨_, rfl, b_10, m_1, gs, rfl, ⟨hb_13, hO_34, hO_35, pr_44, pr_50, (fun q_ h1 h2 => pr_47 q_ h2 h1), hok.perm hgp.symm⟩, hgp, fun q h => h.elim (fun e => by rw [e]; omega) (fun h => h.elim (fun e => pr_48 q e) (fun h => pr_53 q h)), K0⟩
  · intro jx ka_56 kv_57 w_58 h0_59 hI_60 K_61
    obtain ⟨f, hf, rfl, rfl⟩ := ents_get h0_59
    clear h0_59
    rw [ents_erase] at hI_60
    replace hB := hB.keep K_61 pr_36
    replace hb_13 := hb_13.keep K_61 pr_37
    replace hM := hM.keepO K_61 (fun q_ h1 h2 => pr_38 q_ h2 h1)
    replace hF := hF.keepO K_61 (fun q_ h1 h2 => pr_39 q_ h2 h1)
    replace hO_34 := hO_34.keepO K_61 (fun q_ h1 h2 => pr_40 q_ h2 h1)
    replace hO_35 := hO_35.keepO K_61 (fun q_ h1 h2 => pr_41 q_ h2 h1)
    replace K0 := K0.new K_61 pr_42
    replace hO_33 := hI_60
    clear hI_60
    refine RL.val (x_extract rfl rfl) ?_
    refine RL.nil ?_
    refine Run.seq ?_
    refine Run.condT rfl ?_
    refine Run.skip ?_
    refine Run.block ?_
    refine Run.seq ?_
    refine Run.region ?_
    refine RL.val (x_entry rfl hO_33) ?_
    refine RL.val (x_extract rfl rfl) ?_
    refine RL.val (x_extract rfl rfl) ?_
    refine RL.val (x_assignS rfl) ?_
    refine RL.val (x_assignP rfl) ?_
    refine RL.nil ?_
    have hfm_ : f ∈ fs := hsub f (List.mem_of_getElem? hf)
    have hfl := hlens f hfm_
    have hb := (hF.all f hfm_).blk
    have hsl := (hF.all f hfm_).own.sl
    have hgno := copy_no hnd hgp hf
    have pr_62 : ¬ one m f.blk := fun h_ => (fun q_ h1 h2 => hfm q_ h2 h1) _ h_ ⟨f, hfm_, .inl rfl⟩
    have pr_63 : ¬ one r_19 f.blk := fun h_ => pr_39 _ h_ ⟨f, hfm_, .inl rfl⟩
    have pr_64 : ¬ one m_1 f.blk := fun h_ => pr_46 _ h_ ⟨f, hfm_, .inl rfl⟩
    have pr_65 : ¬ filesS gs f.blk := fun h_ => pr_52 _ h_ ⟨f, hfm_, .inl rfl⟩
    refine Run.drawT [16] (m := 17) (by kernel_rfl) rfl ?_
    intro w_66 K_67
    replace hB := hB.ext K_67
    replace hb_13 := hb_13.ext K_67
    replace hM := hM.ext K_67
    replace hF := hF.ext K_67
    replace hO_33 := hO_33.ext K_67
    replace hO_34 := hO_34.ext K_67
    replace hO_35 := hO_35.ext K_67
    replace hb := hb.ext K_67
    replace hsl := hsl.ext K_67
    replace K0 := K0.ext K_67
    refine ⟨fun w' => Blk w' b_10 [.map (some m_1), .int .i64 (room)] 45 ∧ Blk w' f.blk [.slice (f.a) (f.bytes.length) (f.cap), .int .i64 (((f.synced : Nat) : Int))] 77 ∧ True, ?_⟩
    refine RT.takeP (v := .pointer (some ⟨b_10, 0, none⟩)) 0 rfl (by kernel_rfl) (.inr ⟨hb_13, hb, trivial⟩) (fun _ => (x_moveP rfl)) ?_
    refine RT.takeP (v := .pointer (some ⟨b_10, 0, none⟩)) 1 rfl (by kernel_rfl) (.inr ⟨hb_13, hb, trivial⟩) (fun _ => (x_nilCheck rfl)) ?_
    refine RT.takeP (v := .pointer (some ⟨b_10, 0, none⟩)) 2 rfl (by kernel_rfl) (.inr ⟨hb_13, hb, trivial⟩) (fun _ => (x_fld (o' := 0) Try.underlying45 rfl ty43 rfl rfl rfl)) ?_
    refine RT.take (v := .map (some m_1)) 3 rfl (by kernel_rfl) ⟨hb_13, hb, trivial⟩ (by rintro _ ⟨hb_13, hb, -⟩; exact (x_ld (v := .map (some m_1)) ty43 rfl rfl (hb_13.cl.field (i := 0) rfl))) ?_
    refine RT.takeP (v := .string (f.name)) 4 rfl (by kernel_rfl) (.inr ⟨hb_13, hb, trivial⟩) (fun _ => (x_moveS rfl)) ?_
    refine RT.takeP (v := .pointer (some ⟨f.blk, 0, none⟩)) 5 rfl (by kernel_rfl) (.inr ⟨hb_13, hb, trivial⟩) (fun _ => (x_moveP rfl)) ?_
    refine RT.takeP (v := .pointer (some ⟨f.blk, 0, none⟩)) 6 rfl (by kernel_rfl) (.inr ⟨hb_13, hb, trivial⟩) (fun _ => (x_nilCheck rfl)) ?_
    refine RT.takeP (v := .pointer (some ⟨f.blk, 0, none⟩)) 7 rfl (by kernel_rfl) (.inr ⟨hb_13, hb, trivial⟩) (fun _ => (x_fld (o' := 0) Try.underlying77 rfl ty26 rfl rfl rfl)) ?_
    refine RT.take (v := .slice (f.a) (f.bytes.length) (f.cap)) 8 rfl (by kernel_rfl) ⟨hb_13, hb, trivial⟩ (by rintro _ ⟨hb_13, hb, -⟩; exact (x_ld (v := .slice (f.a) (f.bytes.length) (f.cap)) ty26 rfl rfl (hb.cl.field (i := 0) rfl))) ?_
    refine RT.takeP (v := .pointer (some ⟨f.blk, 0, none⟩)) 10 rfl (by kernel_rfl) (.inr ⟨hb_13, hb, trivial⟩) (fun _ => (x_moveP rfl)) ?_
    refine RT.takeP (v := .pointer (some ⟨f.blk, 0, none⟩)) 11 rfl (by kernel_rfl) (.inr ⟨hb_13, hb, trivial⟩) (fun _ => (x_nilCheck rfl)) ?_
    refine RT.takeP (v := .pointer (some ⟨f.blk, 1, none⟩)) 12 rfl (by kernel_rfl) (.inr ⟨hb_13, hb, trivial⟩) (fun _ => (x_fld (o' := 1) Try.underlying77 rfl ty3 rfl rfl rfl)) ?_
    refine RT.take (v := .int .i64 (((f.synced : Nat) : Int))) 13 rfl (by kernel_rfl) ⟨hb_13, hb, trivial⟩ (by rintro _ ⟨hb_13, hb, -⟩; exact (x_ld (v := .int .i64 (((f.synced : Nat) : Int))) ty3 rfl rfl (hb.cl.field (i := 1) rfl))) ?_
    refine RT.st 9 rfl (by kernel_rfl) rfl <| St1.call (vals := [.slice (f.a) (f.bytes.length) (f.cap)]) en32 rfl (clone_byte _ _ _ _ hsl (by omega)) ?_
    rintro _ w_70 ⟨a_68, c_69, rfl, ho_71, hg_72, K_73⟩
    have pr_74 : ¬ own a_68 d := notNew hg_72 hB.lt
    have pr_75 : ¬ own a_68 b_10 := notNew hg_72 hb_13.lt
    have pr_76 : ∀ q_, own a_68 q_ → ¬ one m q_ := apartNew hg_72 hM.own_lt
    have pr_77 : ∀ q_, own a_68 q_ → ¬ filesS fs q_ := apartNew hg_72 hF.own_lt
    have pr_78 : ∀ q_, own a_68 q_ → ¬ one r_19 q_ := apartNew hg_72 hO_33.own_lt
    have pr_79 : ∀ q_, own a_68 q_ → ¬ one m_1 q_ := apartNew hg_72 hO_34.own_lt
    have pr_80 : ∀ q_, own a_68 q_ → ¬ filesS gs q_ := apartNew hg_72 hO_35.own_lt
    have pr_81 : ¬ own a_68 f.blk := notNew hg_72 hb.lt
    have pg_82 : ∀ q_, own a_68 q_ → w.heap.size ≤ q_ := fun q_ h => Nat.le_trans K0.size (hg_72 q_ h)
    clear hg_72
    replace hB := hB.ext K_73
    replace hb_13 := hb_13.ext K_73
    replace hM := hM.ext K_73
    replace hF := hF.ext K_73
    replace hO_33 := hO_33.ext K_73
    replace hO_34 := hO_34.ext K_73
    replace hO_35 := hO_35.ext K_73
    replace hb := hb.ext K_73
    replace hsl := hsl.ext K_73
    replace K0 := K0.ext K_73
    refine ⟨.inr ⟨hb_13, hb, trivial⟩, ?_⟩
    refine RT.takeP (v := .agg #[.slice (a_68) (f.bytes.length) (c_69), .int .i64 (((f.synced : Nat) : Int))]) 14 rfl (by kernel_rfl) (.inr ⟨hb_13, hb, trivial⟩) (fun _ => (x_build (cells := #[.slice (a_68) (f.bytes.length) (c_69), .int .i64 (((f.synced : Nat) : Int))]) (by kernel_rfl))) ?_
    refine RT.st 15 rfl (by kernel_rfl) rfl <| St1.box (v := .agg #[.slice (a_68) (f.bytes.length) (c_69), .int .i64 (((f.synced : Nat) : Int))]) rfl ?_
    intro b_83 w_84 hl_87 hb_86 K_85
    replace hb_86 : Blk w_84 b_83 [.slice (a_68) (f.bytes.length) (c_69), .int .i64 (((f.synced : Nat) : Int))] 77 := hb_86
    have ne_88 : d < b_83 := Nat.lt_of_lt_of_le hB.lt hl_87
    have ne_89 : b_10 < b_83 := Nat.lt_of_lt_of_le hb_13.lt hl_87
    have ne_90 : f.blk < b_83 := Nat.lt_of_lt_of_le hb.lt hl_87
    have pr_91 : ¬ one m b_83 := fun h => absurd (hM.own_lt _ h) (by omega)
    have pr_92 : ¬ filesS fs b_83 := fun h => absurd (hF.own_lt _ h) (by omega)
    have pr_93 : ¬ one r_19 b_83 := fun h => absurd (hO_33.own_lt _ h) (by omega)
    have pr_94 : ¬ one m_1 b_83 := fun h => absurd (hO_34.own_lt _ h) (by omega)
    have pr_95 : ¬ filesS gs b_83 := fun h => absurd (hO_35.own_lt _ h) (by omega)
    have pr_96 : ¬ own a_68 b_83 := fun h => absurd (ho_71.own_lt _ h) (by omega)
    have : w.heap.size ≤ b_83 := Nat.le_trans K0.size hl_87
    clear hl_87
    replace hB := hB.ext K_85
    replace hb_13 := hb_13.ext K_85
    replace hM := hM.ext K_85
    replace hF := hF.ext K_85
    replace hO_33 := hO_33.ext K_85
    replace hO_34 := hO_34.ext K_85
    replace hO_35 := hO_35.ext K_85
    replace hb := hb.ext K_85
    replace hsl := hsl.ext K_85
    replace ho_71 := ho_71.ext K_85
    replace K0 := K0.ext K_85
    refine ⟨.inr ⟨hb_13, hb, trivial⟩, ?_⟩
    refine RT.st 16 rfl (by kernel_rfl) rfl <| St1.mapUpdate (v := .pointer (some ⟨b_83, 0, none⟩)) Try.underlying43 Try.underlying9 rfl rfl rfl rfl hO_34 ?_
    intro w_97 hM_98 K_99
    replace hM_98 : MapAt w_97 m_1 (ents (gs ++ [(⟨f.name, b_83, a_68, c_69, f.bytes, f.synced⟩ : FileS)])) := (ents_put_new hgno b_83 a_68 c_69 f.bytes f.synced ▸ hM_98)
    replace hB := hB.keep K_99 pr_43
    replace hb_13 := hb_13.keep K_99 pr_44
    replace hM := hM.keepO K_99 (fun q_ h1 h2 => pr_45 q_ h2 h1)
    replace hF := hF.keepO K_99 (fun q_ h1 h2 => pr_46 q_ h2 h1)
    replace hO_33 := hO_33.keepO K_99 pr_40 (fun q_ h1 h2 => pr_45 q_ h2 h1)
    replace hO_35 := hO_35.keepO K_99 (fun q_ h1 h2 => pr_47 q_ h2 h1)
    replace hb := hb.keep K_99 pr_64
    replace ho_71 := ho_71.keepO K_99 pr_79
    replace hb_86 := hb_86.keep K_99 pr_94
    replace K0 := K0.new K_99 pr_48
    replace hO_34 := hM_98
    clear hM_98
    refine ⟨.inl (by kernel_rfl), ?_⟩
    refine RT.done (by kernel_rfl) ?_
    have hG' : FilesAt w_97 (gs ++ [(⟨f.name, b_83, a_68, c_69, f.bytes, f.synced⟩ : FileS)]) := FilesAt.snoc ⟨hb_86, ho_71, pr_96⟩ hO_35 (fun q_ h1 h2 => h2.elim (fun e_ => pr_95 (show filesS gs b_83 from (show q_ = b_83 from e_) ▸ h1)) (fun y_ => (fun q_ h1 h2 => pr_80 q_ h2 h1) q_ h1 y_))
    have pr_100 : ¬ filesS (gs ++ [(⟨f.name, b_83, a_68, c_69, f.bytes, f.synced⟩ : FileS)]) d := fun x_ => (files_end _ x_).elim (fun e_ => absurd e_ (by omega)) (fun y_ => y_.elim pr_74 (fun y_ => pr_49 y_))
    have pr_101 : ¬ filesS (gs ++ [(⟨f.name, b_83, a_68, c_69, f.bytes, f.synced⟩ : FileS)]) b_10 := fun x_ => (files_end _ x_).elim (fun e_ => absurd e_ (by omega)) (fun y_ => y_.elim pr_75 (fun y_ => pr_50 y_))
    have pr_102 : ∀ q_, filesS (gs ++ [(⟨f.name, b_83, a_68, c_69, f.bytes, f.synced⟩ : FileS)]) q_ → ¬ one m q_ := fun q_ x_ z_ => (files_end _ x_).elim (fun e_ => pr_91 (show one m b_83 from e_ ▸ z_)) (fun y_ => y_.elim (fun y_ => pr_76 q_ y_ z_) (fun y_ => (fun y_ => pr_51 q_ y_ z_) y_))
    have pr_103 : ∀ q_, filesS (gs ++ [(⟨f.name, b_83, a_68, c_69, f.bytes, f.synced⟩ : FileS)]) q_ → ¬ filesS fs q_ := fun q_ x_ z_ => (files_end _ x_).elim (fun e_ => pr_92 (show filesS fs b_83 from e_ ▸ z_)) (fun y_ => y_.elim (fun y_ => pr_77 q_ y_ z_) (fun y_ => (fun y_ => pr_52 q_ y_ z_) y_))
    have pr_104 : ∀ q_, filesS (gs ++ [(⟨f.name, b_83, a_68, c_69, f.bytes, f.synced⟩ : FileS)]) q_ → ¬ one r_19 q_ := fun q_ x_ z_ => (files_end _ x_).elim (fun e_ => pr_93 (show one r_19 b_83 from e_ ▸ z_)) (fun y_ => y_.elim (fun y_ => pr_78 q_ y_ z_) (fun y_ => (fun y_ => (fun q_ h1 h2 => pr_41 q_ h2 h1) q_ y_ z_) y_))
    have pr_105 : ∀ q_, filesS (gs ++ [(⟨f.name, b_83, a_68, c_69, f.bytes, f.synced⟩ : FileS)]) q_ → ¬ one m_1 q_ := fun q_ x_ z_ => (files_end _ x_).elim (fun e_ => pr_94 (show one m_1 b_83 from e_ ▸ z_)) (fun y_ => y_.elim (fun y_ => pr_79 q_ y_ z_) (fun y_ => (fun y_ => (fun q_ h1 h2 => pr_47 q_ h2 h1) q_ y_ z_) y_))
    have pr_106 : ¬ filesS (gs ++ [(⟨f.name, b_83, a_68, c_69, f.bytes, f.synced⟩ : FileS)]) f.blk := fun x_ => (files_end _ x_).elim (fun e_ => absurd e_ (by omega)) (fun y_ => y_.elim pr_81 (fun y_ => pr_65 y_))
    have pg_107 : ∀ q_, filesS (gs ++ [(⟨f.name, b_83, a_68, c_69, f.bytes, f.synced⟩ : FileS)]) q_ → w.heap.size ≤ q_ := fun q_ x_ => (files_end _ x_).elim (fun e_ => by omega) (fun y_ => y_.elim (fun y_ => pg_82 q_ y_) (fun y_ => (fun y_ => pr_53 q_ y_) y_))
    have hgp' := copy_perm hgp hf (⟨f.name, b_83, a_68, c_69, f.bytes, f.synced⟩ : FileS) rfl
    refine Run.inBlock ?_
    refine ih1 ((rs.eraseIdx jx).length) _ _ ?_ (by rw [hk]; exact erase_lt hf)
    refine ⟨rs.eraseIdx jx, (gs ++ [(⟨f.name, b_83, a_68, c_69, f.bytes, f.synced⟩ : FileS)]), _, ⟨rfl, rfl, trivial⟩, K0, hB, hb_13, hM, hF, hO_33, hO_34, hG', pr_36, pr_37, pr_38, pr_39, pr_40, (fun q_ h1 h2 => pr_104 q_ h2 h1), pr_42, pr_43, pr_44, pr_45, pr_46, (fun q_ h1 h2 => pr_105 q_ h2 h1), pr_48, pr_100, pr_101, pr_102, pr_103, pg_107, ?_, ?_, ?_⟩
    · rfl
    · exact hgp'
    · exact fun f h => hsub f (List.mem_of_mem_eraseIdx h)

end Go.Proofs.Ytambibdkanpmaaa
