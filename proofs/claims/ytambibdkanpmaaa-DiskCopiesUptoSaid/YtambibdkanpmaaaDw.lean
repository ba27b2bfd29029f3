/-
  The laws of both disks: does, alike.
-/
import Derived.Test.YtambibdkanpmaaaRows
import Derived.Test.YtambibdkanpmaaaDv
namespace Go.Proofs.Ytambibdkanpmaaa
attribute [local irreducible] St1 RL RA RT RT1 Run

theorem usedRP {x : Nat} {al : Option Addr} {cl : Nat} {room : Int} {rs : List RF} {pl : List PF} {w : World} (hD : RefM w x al cl room rs) (hp : (rs.map RF.p).Perm pl) (hl : rs.length ≤ 65) (hu : usedL (rs.map RF.p) ≤ 16777216) : Calls Try.prog 45 #[.pointer (some ⟨x, 0, none⟩)] w (Ret fun v w' => v = .int .i64 ((usedL pl : Nat) : Int) ∧ Ext w w') := by
  have := usedR x al cl room rs w hD hl hu
  rwa [usedL_perm hp] at this
theorem filesRP {x : Nat} {al : Option Addr} {cl : Nat} {room : Int} {rs : List RF} {pl : List PF} {w : World} (hD : RefM w x al cl room rs) (hp : (rs.map RF.p).Perm pl) (hs : SortedL (rs.map RF.p)) (hl : rs.length ≤ 65) : Calls Try.prog 46 #[.pointer (some ⟨x, 0, none⟩)] w (Ret fun v w' => ∃ a c, v = .slice a (namesS pl).length c ∧ OwnSl w' 9 a c (namesS pl) ∧ (∀ q, own a q → w.heap.size ≤ q) ∧ Ext w w') := by
  have e : rs.map RF.name = namesS pl := by rw [← namesS_perm hp, sorted_names hs, rf_names]
  have := filesR x al cl room rs w hD hl
  rwa [e] at this
theorem fileP {room : Int} {pl : List PF} {rs : List RF} {i : Nat} {r : RF} (hok : PLOk room pl) (hp : (rs.map RF.p).Perm pl) (hr : rs[i]? = some r) : lookE pl r.name = 0 ∧ readB pl r.name = r.bytes ∧ sizeB pl r.name = r.bytes.length ∧ syncB pl r.name = r.synced := by
  have hm : r.p ∈ pl := hp.mem_iff.1 (List.mem_map.2 ⟨r, List.mem_of_getElem? hr, rfl⟩)
  have hl : lookL pl r.name = some r.p := lookL_mem (f := r.p) hok.nodup hm
  have hmay : mayN r.name = true := hok.may r.p hm
  exact ⟨lookE_some hmay hl, by rw [readB, hl]; rfl, by rw [sizeB, hl]; rfl, by rw [syncB, hl]; rfl⟩

theorem en27 : Enters Try.prog 27 := enters_of Try.func27 rfl (by kernel_rfl)
theorem en43 : Enters Try.prog 43 := enters_of Try.func43 rfl (by kernel_rfl)
theorem en44 : Enters Try.prog 44 := enters_of Try.func44 rfl (by kernel_rfl)
theorem en46 : Enters Try.prog 46 := enters_of Try.func46 rfl (by kernel_rfl)

set_option maxRecDepth 100000 in
set_option maxHeartbeats 4000000 in
theorem does_ (d : Nat) (F1 : Nat → Prop) (x : Nat) (F2 : Nat → Prop) (room : Int) (pl : List PF) (o : DoC) (b : List UInt8) (pts : List PTear) (w0 w : World) (hD : DiskAt w d F1 room pl) (hR : RefAt w x F2 room pl) (hap : ∀ q, F1 q → ¬ F2 q) (h0 : DoAt w0 o b pts) (k0 : Ext w0 w) (hN : ∀ q, F1 q ∨ F2 q → w0.heap.size ≤ q) :
    Calls Try.prog 30 #[.pointer (some ⟨d, 0, none⟩), .pointer (some ⟨x, 0, none⟩), .agg #[.int .i64 ((o).op), .string ((o).name), .string ((o).other), .slice ((o).bytes.a) ((o).bytes.len) ((o).bytes.cap), .slice ((o).tears.a) ((o).tears.len) ((o).tears.cap)]] w (Ret (fun v w' => v = .bool true ∧ ∃ F1' F2', DiskAt w' d F1' room (stepX room pl ⟨o.op, o.name, o.other, b, pts⟩) ∧ RefAt w' x F2' room (stepX room pl ⟨o.op, o.name, o.other, b, pts⟩) ∧ MovedS w F1 F1' ∧ MovedS w F2 F2' ∧ (∀ q, F1' q → ¬ F2' q) ∧ Keeps (fun q => F1 q ∨ F2 q) w w')) := by
  obtain ⟨ts0, htl0, hts0, htt0⟩ := h0.ts
  obtain ⟨hz1, hz2, hz3, hz4⟩ := h0.size
  have htln := htt0.len
  refine calls_run (n := 26) Try.func30 rfl rfl rfl ?_
  refine Run.seq ?_
  refine Run.region ?_
  refine RL.st rfl <| St1.box (v := .agg #[.int .i64 ((o).op), .string ((o).name), .string ((o).other), .slice ((o).bytes.a) ((o).bytes.len) ((o).bytes.cap), .slice ((o).tears.a) ((o).tears.len) ((o).tears.cap)]) rfl ?_
  intro b_1 w_2 hl_5 hb_4 K_3
  replace hb_4 : Blk w_2 b_1 [.int .i64 ((o).op), .string ((o).name), .string ((o).other), .slice ((o).bytes.a) ((o).bytes.len) ((o).bytes.cap), .slice ((o).tears.a) ((o).tears.len) ((o).tears.cap)] 34 := hb_4
  have pr_6 : ¬ F1 b_1 := fun h => absurd (hD.own_lt _ h) (by omega)
  have pr_7 : ¬ F2 b_1 := fun h => absurd (hR.own_lt _ h) (by omega)
  have : w.heap.size ≤ b_1 := hl_5
  clear hl_5
  replace hD := hD.ext K_3
  replace hR := hR.ext K_3
  have K0 := (K_3 : Ext w _).to (S := (fun q => F1 q ∨ F2 q))
  refine RL.val (x_assignB rfl) ?_
  refine RL.nil ?_
  refine Run.seq ?_
  refine Run.drawT [] (m := 8) (by kernel_rfl) rfl ?_
  intro w_8 K_9
  replace hD := hD.ext K_9
  replace hR := hR.ext K_9
  replace hb_4 := hb_4.ext K_9
  replace K0 := K0.ext K_9
  refine ⟨fun w' => Blk w' b_1 [.int .i64 ((o).op), .string ((o).name), .string ((o).other), .slice ((o).bytes.a) ((o).bytes.len) ((o).bytes.cap), .slice ((o).tears.a) ((o).tears.len) ((o).tears.cap)] 34 ∧ True, ?_⟩
  refine RT.takeP (v := .pointer (some ⟨b_1, 3, none⟩)) 0 rfl (by kernel_rfl) (.inr ⟨hb_4, trivial⟩) (fun _ => (x_fld (o' := 3) Try.underlying34 rfl ty26 rfl rfl rfl)) ?_
  refine RT.take (v := .slice (o.bytes.a) (b.length) (o.bytes.cap)) 1 rfl (by kernel_rfl) ⟨hb_4, trivial⟩ (by rintro _ ⟨hb_4, -⟩; exact (litSl (m' := b.length) (x_ld (v := .slice ((o).bytes.a) ((o).bytes.len) ((o).bytes.cap)) ty26 rfl rfl (hb_4.cl.field (i := 3) rfl)) h0.bl)) ?_
  refine RT.takeP (v := .pointer (some ⟨b_1, 4, none⟩)) 3 rfl (by kernel_rfl) (.inr ⟨hb_4, trivial⟩) (fun _ => (x_fld (o' := 4) Try.underlying34 rfl ty32 rfl rfl rfl)) ?_
  refine RT.take (v := .slice (o.tears.a) (ts0.length) (o.tears.cap)) 4 rfl (by kernel_rfl) ⟨hb_4, trivial⟩ (by rintro _ ⟨hb_4, -⟩; exact (litSl (m' := ts0.length) (x_ld (v := .slice ((o).tears.a) ((o).tears.len) ((o).tears.cap)) ty32 rfl rfl (hb_4.cl.field (i := 4) rfl)) htl0)) ?_
  refine RT.st 2 rfl (by kernel_rfl) rfl <| St1.call (vals := [.slice (o.bytes.a) (b.length) (o.bytes.cap)]) en32 rfl (clone_byte _ _ _ _ (h0.bs.ext (k0.new K0 hN)) (by omega)) ?_
  rintro _ w_12 ⟨a_10, c_11, rfl, ho_13, hg_14, K_15⟩
  have pr_16 : ∀ q_, own a_10 q_ → ¬ F1 q_ := apartNew hg_14 hD.own_lt
  have pr_17 : ∀ q_, own a_10 q_ → ¬ F2 q_ := apartNew hg_14 hR.own_lt
  have pr_18 : ¬ own a_10 b_1 := notNew hg_14 hb_4.lt
  have pg_19 : ∀ q_, own a_10 q_ → q_ < w.heap.size → (fun q => F1 q ∨ F2 q) q_ := fun q_ h hlt => absurd (Nat.le_trans K0.size (hg_14 q_ h)) (by omega)
  have pw_20 : ∀ q_, own a_10 q_ → w.heap.size ≤ q_ := fun q_ h => Nat.le_trans K0.size (hg_14 q_ h)
  clear hg_14
  replace hD := hD.ext K_15
  replace hR := hR.ext K_15
  replace hb_4 := hb_4.ext K_15
  replace K0 := K0.ext K_15
  refine ⟨.inr ⟨hb_4, trivial⟩, ?_⟩
  refine RT.st 5 rfl (by kernel_rfl) rfl <| St1.call (vals := [.slice (o.tears.a) (ts0.length) (o.tears.cap)]) en24 rfl (tears_ _ ts0 _ pts _ (hts0.ext (k0.new K0 hN)) (htt0.ext (k0.new K0 hN)) (by omega)) ?_
  rintro _ w_24 ⟨a_21, c_22, cs_23, rfl, ho_25, hL_26, hcp_27, hg_28, hg_29, hpr_30, K_31⟩
  have pr_32 : ∀ q_, own a_21 q_ → ¬ F1 q_ := apartNew hg_28 hD.own_lt
  have pr_33 : ∀ q_, own a_21 q_ → ¬ F2 q_ := apartNew hg_28 hR.own_lt
  have pr_34 : ¬ own a_21 b_1 := notNew hg_28 hb_4.lt
  have pr_35 : ∀ q_, own a_21 q_ → ¬ own a_10 q_ := apartNew hg_28 ho_13.own_lt
  have pg_36 : ∀ q_, own a_21 q_ → q_ < w.heap.size → (fun q => F1 q ∨ F2 q) q_ := fun q_ h hlt => absurd (Nat.le_trans K0.size (hg_28 q_ h)) (by omega)
  have pw_37 : ∀ q_, own a_21 q_ → w.heap.size ≤ q_ := fun q_ h => Nat.le_trans K0.size (hg_28 q_ h)
  have pr_38 : ∀ q_, leftS (cs_23.map CT.l) q_ → ¬ F1 q_ := apartNew hg_29 hD.own_lt
  have pr_39 : ∀ q_, leftS (cs_23.map CT.l) q_ → ¬ F2 q_ := apartNew hg_29 hR.own_lt
  have pr_40 : ¬ leftS (cs_23.map CT.l) b_1 := notNew hg_29 hb_4.lt
  have pr_41 : ∀ q_, leftS (cs_23.map CT.l) q_ → ¬ own a_10 q_ := apartNew hg_29 ho_13.own_lt
  have pg_42 : ∀ q_, leftS (cs_23.map CT.l) q_ → q_ < w.heap.size → (fun q => F1 q ∨ F2 q) q_ := fun q_ h hlt => absurd (Nat.le_trans K0.size (hg_29 q_ h)) (by omega)
  have pw_43 : ∀ q_, leftS (cs_23.map CT.l) q_ → w.heap.size ≤ q_ := fun q_ h => Nat.le_trans K0.size (hg_29 q_ h)
  clear hg_28 hg_29
  replace hD := hD.ext K_31
  replace hR := hR.ext K_31
  replace hb_4 := hb_4.ext K_31
  replace ho_13 := ho_13.ext K_31
  replace K0 := K0.ext K_31
  have hcl_cs_23 : (cs_23.map CT.t).length = pts.length := by rw [← hcp_27]; simp
  refine ⟨.inr ⟨hb_4, trivial⟩, ?_⟩
  refine RT.takeP (v := .slice (a_10) (b.length) (c_11)) 6 rfl (by kernel_rfl) (.inr ⟨hb_4, trivial⟩) (fun _ => (x_assignSl rfl)) ?_
  refine RT.takeP (v := .slice (a_21) ((cs_23.map CT.t).length) (c_22)) 7 rfl (by kernel_rfl) (.inr ⟨hb_4, trivial⟩) (fun _ => (x_assignSl rfl)) ?_
  refine RT.done (by kernel_rfl) ?_
  refine Run.seq ?_
  refine Run.region ?_
  refine RL.val (x_moveP rfl) ?_
  refine RL.val (x_moveP rfl) ?_
  refine RL.val (x_lds (cs := #[.int .i64 ((o).op), .string ((o).name), .string ((o).other), .slice ((o).bytes.a) ((o).bytes.len) ((o).bytes.cap), .slice ((o).tears.a) ((o).tears.len) ((o).tears.cap)]) ty34 rfl rfl (hb_4.cl.drop 0 5)) ?_
  refine RL.val (x_moveSl rfl) ?_
  refine RL.val (x_moveSl rfl) ?_
  refine RL.st rfl <| St1.call (vals := [.pointer (some ⟨d, 0, none⟩), .pointer (some ⟨x, 0, none⟩), .agg #[.int .i64 ((o).op), .string ((o).name), .string ((o).other), .slice ((o).bytes.a) ((o).bytes.len) ((o).bytes.cap), .slice ((o).tears.a) ((o).tears.len) ((o).tears.cap)], .slice (a_10) (b.length) (c_11), .slice (a_21) ((cs_23.map CT.t).length) (c_22)]) en43 rfl (calls_ d F1 x F2 room pl o b pts _ _ _ _ _ w0 _ hD hR hap h0 (k0.new K0 hN) hN ho_13.sl (fun q_ h_ => fun y_ => y_.elim (pr_16 _ ⟨q_, h_, rfl⟩) (pr_17 _ ⟨q_, h_, rfl⟩)) ho_25.sl (fun q_ h_ _ y_ => y_.elim (pr_32 _ ⟨q_, h_, rfl⟩) (pr_33 _ ⟨q_, h_, rfl⟩)) (tearsAt_of hL_26 hcp_27 htt0.size)) ?_
  rintro _ w_44 ⟨rfl, Fd_45, Fr_46, hD_47, hR_48, hm_49, hm_50, hap_51, K_52⟩
  have hM1 : MovedS w F1 Fd_45 := (MovedS.refl w F1).trans hm_49 K0.size
  have hM2 : MovedS w F2 Fr_46 := (MovedS.refl w F2).trans hm_50 K0.size
  have pr_53 : ¬ Fd_45 b_1 := hm_49.not pr_6 hb_4.lt
  have pr_54 : ∀ q_, Fd_45 q_ → ¬ own a_10 q_ := hm_49.apart (fun q_ h1 h2 => pr_16 q_ h2 h1) ho_13.own_lt
  have pr_55 : ∀ q_, Fd_45 q_ → ¬ own a_21 q_ := hm_49.apart (fun q_ h1 h2 => pr_32 q_ h2 h1) ho_25.own_lt
  have pr_56 : ∀ q_, Fd_45 q_ → ¬ leftS (cs_23.map CT.l) q_ := hm_49.apart (fun q_ h1 h2 => pr_38 q_ h2 h1) hL_26.own_lt
  have pg_57 : ∀ q_, Fd_45 q_ → q_ < w.heap.size → (fun q => F1 q ∨ F2 q) q_ := hm_49.inS (fun q_ h_ _ => Or.inl h_) K0.size
  have pr_58 : ¬ Fr_46 b_1 := hm_50.not pr_7 hb_4.lt
  have pr_59 : ∀ q_, Fr_46 q_ → ¬ own a_10 q_ := hm_50.apart (fun q_ h1 h2 => pr_17 q_ h2 h1) ho_13.own_lt
  have pr_60 : ∀ q_, Fr_46 q_ → ¬ own a_21 q_ := hm_50.apart (fun q_ h1 h2 => pr_33 q_ h2 h1) ho_25.own_lt
  have pr_61 : ∀ q_, Fr_46 q_ → ¬ leftS (cs_23.map CT.l) q_ := hm_50.apart (fun q_ h1 h2 => pr_39 q_ h2 h1) hL_26.own_lt
  have pg_62 : ∀ q_, Fr_46 q_ → q_ < w.heap.size → (fun q => F1 q ∨ F2 q) q_ := hm_50.inS (fun q_ h_ _ => Or.inr h_) K0.size
  have pr_63 : ¬ (fun q => F1 q ∨ F2 q) b_1 := fun x_ => ((fun q_ h_ => h_) _ x_).elim pr_6 (fun y_ => pr_7 y_)
  have pr_64 : ∀ q_, (fun q => F1 q ∨ F2 q) q_ → ¬ own a_10 q_ := fun q_ x_ z_ => ((fun q_ h_ => h_) _ x_).elim (fun y_ => (fun q_ h1 h2 => pr_16 q_ h2 h1) q_ y_ z_) (fun y_ => (fun y_ => (fun q_ h1 h2 => pr_17 q_ h2 h1) q_ y_ z_) y_)
  have pr_65 : ∀ q_, (fun q => F1 q ∨ F2 q) q_ → ¬ own a_21 q_ := fun q_ x_ z_ => ((fun q_ h_ => h_) _ x_).elim (fun y_ => (fun q_ h1 h2 => pr_32 q_ h2 h1) q_ y_ z_) (fun y_ => (fun y_ => (fun q_ h1 h2 => pr_33 q_ h2 h1) q_ y_ z_) y_)
  have pr_66 : ∀ q_, (fun q => F1 q ∨ F2 q) q_ → ¬ leftS (cs_23.map CT.l) q_ := fun q_ x_ z_ => ((fun q_ h_ => h_) _ x_).elim (fun y_ => (fun q_ h1 h2 => pr_38 q_ h2 h1) q_ y_ z_) (fun y_ => (fun y_ => (fun q_ h1 h2 => pr_39 q_ h2 h1) q_ y_ z_) y_)
  have pg_67 : ∀ q_, (fun q => F1 q ∨ F2 q) q_ → q_ < w.heap.size → (fun q => F1 q ∨ F2 q) q_ := fun q_ x_ hl_ => ((fun q_ h_ => h_) _ x_).elim (fun y_ => (fun q_ h_ _ => Or.inl h_) q_ y_ hl_) (fun y_ => (fun y_ => (fun q_ h_ _ => Or.inr h_) q_ y_ hl_) y_)
  replace hb_4 := hb_4.keep K_52 pr_63
  replace ho_13 := ho_13.keepO K_52 (fun q_ h1 h2 => pr_64 q_ h2 h1)
  replace ho_25 := ho_25.keepO K_52 (fun q_ h1 h2 => pr_65 q_ h2 h1)
  replace hL_26 := hL_26.keepO K_52 (fun q_ h1 h2 => pr_66 q_ h2 h1)
  replace K0 := K0.trans K_52 (fun x hlt hx => pg_67 x hx hlt)
  refine RL.val (x_assignB rfl) ?_
  refine RL.nil ?_
  refine Run.seq ?_
  refine Run.region ?_
  refine RL.val (x_moveSl rfl) ?_
  refine RL.val (x_moveSl rfl) ?_
  refine RL.st rfl <| St1.call (vals := [.slice (a_10) (b.length) (c_11), .slice (a_21) ((cs_23.map CT.t).length) (c_22)]) en44 rfl (spoil_ a_10 b c_11 a_21 cs_23 c_22 _ ho_13 ho_25.sl hL_26 pr_41 (fun x_ hx_ _ h_ => h_.elim (fun y_ => pr_35 _ ⟨x_, hx_, rfl⟩ y_) (fun y_ => hpr_30 _ y_ ⟨x_, hx_, rfl⟩)) (by omega) (by omega)) ?_
  rintro _ w_68 ⟨rfl, K_69⟩
  have pr_70 : ¬ (fun q => own a_10 q ∨ leftS (cs_23.map CT.l) q) b_1 := fun x_ => ((fun q_ h_ => h_) _ x_).elim pr_18 (fun y_ => pr_40 y_)
  have pr_71 : ∀ q_, (fun q => own a_10 q ∨ leftS (cs_23.map CT.l) q) q_ → ¬ own a_21 q_ := fun q_ x_ z_ => ((fun q_ h_ => h_) _ x_).elim (fun y_ => (fun q_ h1 h2 => pr_35 q_ h2 h1) q_ y_ z_) (fun y_ => (fun y_ => hpr_30 q_ y_ z_) y_)
  have pr_72 : ∀ q_, (fun q => own a_10 q ∨ leftS (cs_23.map CT.l) q) q_ → ¬ Fd_45 q_ := fun q_ x_ z_ => ((fun q_ h_ => h_) _ x_).elim (fun y_ => (fun q_ h1 h2 => pr_54 q_ h2 h1) q_ y_ z_) (fun y_ => (fun y_ => (fun q_ h1 h2 => pr_56 q_ h2 h1) q_ y_ z_) y_)
  have pr_73 : ∀ q_, (fun q => own a_10 q ∨ leftS (cs_23.map CT.l) q) q_ → ¬ Fr_46 q_ := fun q_ x_ z_ => ((fun q_ h_ => h_) _ x_).elim (fun y_ => (fun q_ h1 h2 => pr_59 q_ h2 h1) q_ y_ z_) (fun y_ => (fun y_ => (fun q_ h1 h2 => pr_61 q_ h2 h1) q_ y_ z_) y_)
  have pg_74 : ∀ q_, (fun q => own a_10 q ∨ leftS (cs_23.map CT.l) q) q_ → q_ < w.heap.size → (fun q => F1 q ∨ F2 q) q_ := fun q_ x_ hl_ => ((fun q_ h_ => h_) _ x_).elim (fun y_ => pg_19 q_ y_ hl_) (fun y_ => (fun y_ => pg_42 q_ y_ hl_) y_)
  replace hb_4 := hb_4.keep K_69 pr_70
  replace ho_25 := ho_25.keepO K_69 (fun q_ h1 h2 => pr_71 q_ h2 h1)
  replace hD_47 := hD_47.keepO K_69 (fun q_ h1 h2 => pr_72 q_ h2 h1)
  replace hR_48 := hR_48.keepO K_69 (fun q_ h1 h2 => pr_73 q_ h2 h1)
  replace K0 := K0.trans K_69 (fun x hlt hx => pg_74 x hx hlt)
  refine RL.nil ?_
  refine Run.seq ?_
  refine Run.region ?_
  refine RL.val (x_moveB rfl) ?_
  refine RL.val (x_assignB rfl) ?_
  refine RL.nil ?_
  refine Run.ret1 (v := .bool (true)) Try.func30 rfl rfl ?_
  exact ⟨_, rfl, rfl, Fd_45, Fr_46, hD_47, hR_48, hM1, hM2, hap_51, K0⟩

set_option maxRecDepth 100000 in
set_option maxHeartbeats 4000000 in
theorem alike_ (d : Nat) (F1 : Nat → Prop) (room : Int) (pl : List PF) (x : Nat) (al : Option Addr) (cl : Nat) (rs : List RF) (w : World) (hA : DiskAt w d F1 room pl) (hD : RefO w x al cl room rs) (hp : (rs.map RF.p).Perm pl) (hap : ∀ q, F1 q → ¬ refS x al rs q) :
    Calls Try.prog 31 #[.pointer (some ⟨d, 0, none⟩), .pointer (some ⟨x, 0, none⟩)] w (Ret (fun v w' => v = .bool true ∧ Ext w w')) := by
  obtain ⟨⟨hb, ho, hy, hox, hbx, hbo⟩, hok, hso⟩ := hD
  have hml : (rs.map RF.c).length = rs.length := List.length_map ..
  have hnd := RefO.names hok
  have hl : rs.length ≤ 64 := by have := hok.len; rwa [List.length_map] at this
  have hroom := hok.room
  have hused := hok.used
  have hap1 : ¬ F1 x := fun h_ => hap x h_ (Or.inl (Or.inl rfl))
  have hap2 : ∀ q, F1 q → ¬ own al q := fun q h_ h2 => hap q h_ (Or.inl (Or.inr h2))
  have hap3 : ∀ q, F1 q → ¬ bytesS rs q := fun q h_ h2 => hap q h_ (Or.inr h2)
  have hnl := names_len hA.ok
  refine calls_run (n := 87) Try.func31 rfl rfl rfl ?_
  refine Run.seq ?_
  refine Run.region ?_
  refine RL.val (x_assignB rfl) ?_
  refine RL.nil ?_
  refine Run.seq ?_
  refine Run.seq ?_
  refine Run.drawT [] (m := 22) (by kernel_rfl) rfl ?_
  intro w_1 K_2
  replace hb := hb.ext K_2
  replace ho := ho.ext K_2
  replace hy := hy.ext K_2
  replace hA := hA.ext K_2
  have K0 := (K_2 : Ext w _)
  refine ⟨fun w' => Blk w' x [.int .i64 (room), .slice (al) ((rs.map RF.c).length) (cl)] 89 ∧ True, ?_⟩
  refine RT.takeP (v := .pointer (some ⟨d, 0, none⟩)) 0 rfl (by kernel_rfl) (.inr ⟨hb, trivial⟩) (fun _ => (x_moveP rfl)) ?_
  refine RT.takeP (v := .pointer (some ⟨x, 0, none⟩)) 2 rfl (by kernel_rfl) (.inr ⟨hb, trivial⟩) (fun _ => (x_moveP rfl)) ?_
  refine RT.st 1 rfl (by kernel_rfl) rfl <| St1.call (vals := [.pointer (some ⟨d, 0, none⟩)]) en26 rfl (usedD hA) ?_
  rintro _ w_3 ⟨rfl, K_4⟩
  replace hb := hb.ext K_4
  replace ho := ho.ext K_4
  replace hy := hy.ext K_4
  replace hA := hA.ext K_4
  replace K0 := K0.ext K_4
  refine ⟨.inr ⟨hb, trivial⟩, ?_⟩
  refine RT.st 3 rfl (by kernel_rfl) rfl <| St1.call (vals := [.pointer (some ⟨x, 0, none⟩)]) en45 rfl (usedRP (⟨hb, ho, hy, hox, hbx, hbo⟩ : RefM _ x al cl room rs) hp (by omega) (by omega)) ?_
  rintro _ w_5 ⟨rfl, K_6⟩
  replace hb := hb.ext K_6
  replace ho := ho.ext K_6
  replace hy := hy.ext K_6
  replace hA := hA.ext K_6
  replace K0 := K0.ext K_6
  refine ⟨.inr ⟨hb, trivial⟩, ?_⟩
  refine RT.takeP (v := .bool (false)) 4 rfl (by kernel_rfl) (.inr ⟨hb, trivial⟩) (fun _ => (litF (x_neI rfl rfl) (by simp))) ?_
  refine RT.takeP (v := .bool (false)) 5 rfl (by kernel_rfl) (.inr ⟨hb, trivial⟩) (fun _ => (x_moveB rfl)) ?_
  refine RT.gtakeP (v := .pointer (some ⟨d, 0, none⟩)) 6 rfl (by kernel_rfl) (.inr ⟨hb, trivial⟩) (wantedF1 rfl rfl rfl rfl) (fun hg _ => (x_moveP rfl)) ?_
  refine RT.gtakeP (v := .pointer (some ⟨x, 0, none⟩)) 8 rfl (by kernel_rfl) (.inr ⟨hb, trivial⟩) (wantedF1 rfl rfl rfl rfl) (fun hg _ => (x_moveP rfl)) ?_
  refine RT.gtakeP (v := .pointer (some ⟨x, 0, none⟩)) 9 rfl (by kernel_rfl) (.inr ⟨hb, trivial⟩) (wantedF1 rfl rfl rfl rfl) (fun hg _ => (x_nilCheck rfl)) ?_
  refine RT.gtakeP (v := .pointer (some ⟨x, 0, none⟩)) 10 rfl (by kernel_rfl) (.inr ⟨hb, trivial⟩) (wantedF1 rfl rfl rfl rfl) (fun hg _ => (x_fld (o' := 0) Try.underlying89 rfl ty3 rfl rfl rfl)) ?_
  refine RT.gtake (v := .int .i64 (room)) 11 rfl (by kernel_rfl) ⟨hb, trivial⟩ (wantedF1 rfl rfl rfl rfl) (fun hg => by rintro _ ⟨hb, -⟩; exact (x_ld (v := .int .i64 (room)) ty3 rfl rfl (hb.cl.field (i := 0) rfl))) ?_
  refine RT.gst 7 rfl (by kernel_rfl) (wantedF1 rfl rfl rfl rfl) <| St1.call (vals := [.pointer (some ⟨d, 0, none⟩)]) en27 rfl (roomD hA) ?_
  rintro _ w_7 ⟨rfl, K_8⟩
  replace hb := hb.ext K_8
  replace ho := ho.ext K_8
  replace hy := hy.ext K_8
  replace hA := hA.ext K_8
  replace K0 := K0.ext K_8
  refine ⟨.inr ⟨hb, trivial⟩, ?_⟩
  refine RT.gtakeP (v := .bool (false)) 12 rfl (by kernel_rfl) (.inr ⟨hb, trivial⟩) (wantedF1 rfl rfl rfl rfl) (fun hg _ => (litF (x_neI rfl rfl) (by simp))) ?_
  refine RT.takeP (v := .bool (false)) 13 rfl (by kernel_rfl) (.inr ⟨hb, trivial⟩) (fun _ => (x_orF rfl rfl rfl)) ?_
  refine RT.takeP (v := .bool (false)) 14 rfl (by kernel_rfl) (.inr ⟨hb, trivial⟩) (fun _ => (x_moveB rfl)) ?_
  refine RT.gtakeP (v := .pointer (some ⟨d, 0, none⟩)) 15 rfl (by kernel_rfl) (.inr ⟨hb, trivial⟩) (wantedF1 rfl rfl rfl rfl) (fun hg _ => (x_moveP rfl)) ?_
  refine RT.gtakeP (v := .pointer (some ⟨x, 0, none⟩)) 17 rfl (by kernel_rfl) (.inr ⟨hb, trivial⟩) (wantedF1 rfl rfl rfl rfl) (fun hg _ => (x_moveP rfl)) ?_
  refine RT.gst 16 rfl (by kernel_rfl) (wantedF1 rfl rfl rfl rfl) <| St1.call (vals := [.pointer (some ⟨d, 0, none⟩)]) en17 rfl (filesD hA) ?_
  rintro _ w_11 ⟨a_9, c_10, rfl, ho_12, hg_13, K_14⟩
  have pr_15 : ¬ own a_9 x := notNew hg_13 hb.lt
  have pr_16 : ∀ q_, own a_9 q_ → ¬ own al q_ := apartNew hg_13 ho.own_lt
  have pr_17 : ∀ q_, own a_9 q_ → ¬ bytesS rs q_ := apartNew hg_13 hy.own_lt
  have pr_18 : ∀ q_, own a_9 q_ → ¬ F1 q_ := apartNew hg_13 hA.own_lt
  have pg_19 : ∀ q_, own a_9 q_ → w.heap.size ≤ q_ := fun q_ h => Nat.le_trans K0.size (hg_13 q_ h)
  clear hg_13
  replace hb := hb.ext K_14
  replace ho := ho.ext K_14
  replace hy := hy.ext K_14
  replace hA := hA.ext K_14
  replace K0 := K0.ext K_14
  refine ⟨.inr ⟨hb, trivial⟩, ?_⟩
  refine RT.gst 18 rfl (by kernel_rfl) (wantedF1 rfl rfl rfl rfl) <| St1.call (vals := [.pointer (some ⟨x, 0, none⟩)]) en46 rfl (filesRP (⟨hb, ho, hy, hox, hbx, hbo⟩ : RefM _ x al cl room rs) hp hso (by omega)) ?_
  rintro _ w_22 ⟨a_20, c_21, rfl, ho_23, hg_24, K_25⟩
  have pr_26 : ¬ own a_20 x := notNew hg_24 hb.lt
  have pr_27 : ∀ q_, own a_20 q_ → ¬ own al q_ := apartNew hg_24 ho.own_lt
  have pr_28 : ∀ q_, own a_20 q_ → ¬ bytesS rs q_ := apartNew hg_24 hy.own_lt
  have pr_29 : ∀ q_, own a_20 q_ → ¬ F1 q_ := apartNew hg_24 hA.own_lt
  have pr_30 : ∀ q_, own a_20 q_ → ¬ own a_9 q_ := apartNew hg_24 ho_12.own_lt
  have pg_31 : ∀ q_, own a_20 q_ → w.heap.size ≤ q_ := fun q_ h => Nat.le_trans K0.size (hg_24 q_ h)
  clear hg_24
  replace hb := hb.ext K_25
  replace ho := ho.ext K_25
  replace hy := hy.ext K_25
  replace hA := hA.ext K_25
  replace ho_12 := ho_12.ext K_25
  replace K0 := K0.ext K_25
  refine ⟨.inr ⟨hb, trivial⟩, ?_⟩
  refine RT.gst 19 rfl (by kernel_rfl) (wantedF1 rfl rfl rfl rfl) <| St1.call (vals := [.slice (a_9) ((namesS pl).length) (c_10), .slice (a_20) ((namesS pl).length) (c_21)]) en36 rfl (equal_str _ _ _ _ _ _ _ ho_12.sl ho_23.sl (by omega)) ?_
  rintro _ w_32 ⟨rfl, K_33⟩
  replace hb := hb.ext K_33
  replace ho := ho.ext K_33
  replace hy := hy.ext K_33
  replace hA := hA.ext K_33
  replace ho_12 := ho_12.ext K_33
  replace ho_23 := ho_23.ext K_33
  replace K0 := K0.ext K_33
  refine ⟨.inr ⟨hb, trivial⟩, ?_⟩
  refine RT.gtakeP (v := .bool (false)) 20 rfl (by kernel_rfl) (.inr ⟨hb, trivial⟩) (wantedF1 rfl rfl rfl rfl) (fun hg _ => (litF (x_not rfl) (by simp))) ?_
  refine RT.takeP (v := .bool (false)) 21 rfl (by kernel_rfl) (.inr ⟨hb, trivial⟩) (fun _ => (x_orF rfl rfl rfl)) ?_
  refine RT.done (by kernel_rfl) ?_
  refine Run.condF rfl ?_
  refine Run.skip ?_
  refine Run.seq ?_
  refine Run.seq ?_
  refine Run.region ?_
  refine RL.val (x_moveP rfl) ?_
  refine RL.val (x_nilCheck rfl) ?_
  refine RL.val (x_fld (o' := 1) Try.underlying89 rfl ty87 rfl rfl rfl) ?_
  refine RL.val (x_ld (v := .slice (al) ((rs.map RF.c).length) (cl)) ty87 rfl rfl (hb.cl.field (i := 1) rfl)) ?_
  refine RL.val (x_lenSl Try.underlying87 rfl) ?_
  refine RL.val (x_moveI rfl) ?_
  refine RL.nil ?_
  refine Run.block ?_
  refine Run.loop (ι := Nat) (fun i ρ' w' => Holds ρ' [(0, .pointer (some ⟨d, 0, none⟩)), (37, .slice (al) ((rs.map RF.c).length) (cl)), (38, .int .i64 ((((rs.map RF.c).length : Nat) : Int))), (39, .int .i64 (((i : Nat) : Int)))] ∧ Ext w w' ∧ (Blk w' x [.int .i64 (room), .slice (al) ((rs.map RF.c).length) (cl)] 89) ∧ (OwnSl w' 93 (al) (cl) (rs.map RF.c)) ∧ (BytesAt w' rs) ∧ (DiskAt w' d F1 room pl) ∧ (OwnSl w' 9 (a_9) (c_10) (namesS pl)) ∧ (OwnSl w' 9 (a_20) (c_21) (namesS pl)) ∧ (i ≤ rs.length)) (fun i => rs.length - i) 0 ?_ ?_
  · refine ⟨⟨rfl, rfl, rfl, rfl, trivial⟩, K0, hb, ho, hy, hA, ho_12, ho_23, ?_⟩
    · omega
  clear hb ho hy hA ho_12 ho_23
  clear K0
  rintro i ρ_36 w_34 ⟨hH_35, K0, hb, ho, hy, hA, ho_12, ho_23, hi⟩ ih1
  obtain ⟨ρ₀, rfl⟩ := hH_35.ex
  clear hH_35
  refine Run.seq ?_
  refine Run.region ?_
  refine RL.val (x_ltI rfl rfl) ?_
  refine RL.nil ?_
  refine Run.seq ?_
  refine Run.cond rfl (fun hc40 => ?_) (fun hc40 => ?_)
  · try simp only [br] at hc40
    refine Run.skip ?_
    refine Run.seq ?_
    refine Run.block ?_
    refine Run.seq ?_
    refine Run.region ?_
    obtain ⟨b_37, o_38, y, hx, ha_39, hc_40⟩ := ho.sl.el (i := i) (by first | omega | (simp only [List.length_set]; omega))
    refine RL.val (x_idxN Try.underlying87 ty93 rfl rfl ha_39 (by first | omega | (simp only [List.length_set]; omega))) ?_
    obtain ⟨r, hr, hxr⟩ := rf_get hx
    have hn_r : y.name = r.name := by rw [hxr]; rfl
    refine RL.val (litV (v' := .agg #[.string (r.name), .slice (r.a) (r.bytes.length) (r.cap), .int .i64 (((r.synced : Nat) : Int))]) (x_ldV (v := .agg #[.string ((y).name), .slice ((y).b.a) ((y).b.len) ((y).b.cap), .int .i64 ((y).synced)]) (y := y) ty93 rfl hc_40 rfl) (by rw [hxr]; rfl)) ?_
    refine RL.st rfl <| St1.alloc ty93 ?_
    intro b_43 w_44 hl_47 hb_46 K_45
    replace hb_46 : Blk w_44 b_43 [.string (⟨#[]⟩), .slice (none) (0) (0), .int .i64 (0)] 93 := hb_46
    have ne_48 : x < b_43 := Nat.lt_of_lt_of_le hb.lt hl_47
    have ne_49 : b_37 < b_43 := Nat.lt_of_lt_of_le hc_40.lt hl_47
    have pr_50 : ¬ own al b_43 := fun h => absurd (ho.own_lt _ h) (by omega)
    have pr_51 : ¬ bytesS rs b_43 := fun h => absurd (hy.own_lt _ h) (by omega)
    have pr_52 : ¬ F1 b_43 := fun h => absurd (hA.own_lt _ h) (by omega)
    have pr_53 : ¬ own a_9 b_43 := fun h => absurd (ho_12.own_lt _ h) (by omega)
    have pr_54 : ¬ own a_20 b_43 := fun h => absurd (ho_23.own_lt _ h) (by omega)
    have : w.heap.size ≤ b_43 := Nat.le_trans K0.size hl_47
    clear hl_47
    replace hb := hb.ext K_45
    replace ho := ho.ext K_45
    replace hy := hy.ext K_45
    replace hA := hA.ext K_45
    replace ho_12 := ho_12.ext K_45
    replace ho_23 := ho_23.ext K_45
    replace hc_40 := hc_40.ext K_45
    replace K0 := K0.ext K_45
    refine RL.st rfl <| St1.store (v := .agg #[.string (r.name), .slice (r.a) (r.bytes.length) (r.cap), .int .i64 (((r.synced : Nat) : Int))]) ty93 rfl rfl rfl (by simp [Value.cells, Value.oneCell']) hb_46 (by simp) ?_
    intro w_55 hb_46_ K_56
    have hb_46' : Blk w_55 b_43 [.string (r.name), .slice (r.a) (r.bytes.length) (r.cap), .int .i64 (((r.synced : Nat) : Int))] 93 := hb_46_
    clear hb_46_
    replace hb := hb.keep K_56 (by simp only [one]; omega)
    replace ho := ho.keepO K_56 (fun q_ hq_ eq_ => pr_50 (by simp only [one] at eq_; rw [← eq_]; exact hq_))
    replace hy := hy.keepO K_56 (fun q_ hq_ eq_ => pr_51 (by simp only [one] at eq_; rw [← eq_]; exact hq_))
    replace hA := hA.keepO K_56 (fun q_ hq_ eq_ => pr_52 (by simp only [one] at eq_; rw [← eq_]; exact hq_))
    replace ho_12 := ho_12.keepO K_56 (fun q_ hq_ eq_ => pr_53 (by simp only [one] at eq_; rw [← eq_]; exact hq_))
    replace ho_23 := ho_23.keepO K_56 (fun q_ hq_ eq_ => pr_54 (by simp only [one] at eq_; rw [← eq_]; exact hq_))
    replace hc_40 := hc_40.keep K_56 (fun e => pr_50 (by simp only [one] at e; rw [← e]; exact (own_sub _) _ ha_39))
    replace K0 := K0.new K_56 (fun x hx => by simp only [one] at hx; omega)
    replace hb_46 := hb_46'
    clear hb_46'
    refine RL.nil ?_
    obtain ⟨hf1, hf2, hf3, hf4⟩ := fileP (hA).ok hp hr
    have hns : r.name.size ≤ 4294967295 := by have := hok.may r.p (List.mem_map.2 ⟨r, List.mem_of_getElem? hr, rfl⟩); simp only [mayN, Bool.and_eq_true, decide_eq_true_eq] at this; have h2 : r.p.name = r.name := rfl; rw [h2] at this; omega
    have hrbl : r.bytes.length ≤ 16777216 := by have := usedL_mem (pl := rs.map RF.p) (f := r.p) (List.mem_map.2 ⟨r, List.mem_of_getElem? hr, rfl⟩); have h2 : r.p.bytes = r.bytes := rfl; rw [h2] at this; omega
    have hrbl2 : (readB pl r.name).length ≤ 16777216 := by rw [hf2]; exact hrbl
    refine Run.seq ?_
    refine Run.region ?_
    refine RL.val (x_moveP rfl) ?_
    refine RL.val (x_fld (o' := 0) Try.underlying93 rfl ty9 rfl rfl rfl) ?_
    refine RL.val (x_ld (v := .string (r.name)) ty9 rfl rfl (hb_46.cl.field (i := 0) rfl)) ?_
    refine RL.st rfl <| St1.call (vals := [.pointer (some ⟨d, 0, none⟩), .string (r.name)]) en12 rfl (readD hA r.name (by first | omega | decide)) ?_
    rintro _ w_59 ⟨a_57, c_58, rfl, ho_60, hg_61, K_62⟩
    have pr_63 : ¬ own a_57 x := notNew hg_61 hb.lt
    have pr_64 : ∀ q_, own a_57 q_ → ¬ own al q_ := apartNew hg_61 ho.own_lt
    have pr_65 : ∀ q_, own a_57 q_ → ¬ bytesS rs q_ := apartNew hg_61 hy.own_lt
    have pr_66 : ∀ q_, own a_57 q_ → ¬ F1 q_ := apartNew hg_61 hA.own_lt
    have pr_67 : ∀ q_, own a_57 q_ → ¬ own a_9 q_ := apartNew hg_61 ho_12.own_lt
    have pr_68 : ∀ q_, own a_57 q_ → ¬ own a_20 q_ := apartNew hg_61 ho_23.own_lt
    have pr_69 : ¬ own a_57 b_43 := notNew hg_61 hb_46.lt
    have pg_70 : ∀ q_, own a_57 q_ → w.heap.size ≤ q_ := fun q_ h => Nat.le_trans K0.size (hg_61 q_ h)
    clear hg_61
    replace hb := hb.ext K_62
    replace ho := ho.ext K_62
    replace hy := hy.ext K_62
    replace hA := hA.ext K_62
    replace ho_12 := ho_12.ext K_62
    replace ho_23 := ho_23.ext K_62
    replace hb_46 := hb_46.ext K_62
    replace K0 := K0.ext K_62
    refine RL.val (x_moveT rfl) ?_
    refine RL.val (x_extract rfl rfl) ?_
    refine RL.val (x_extract rfl rfl) ?_
    refine RL.val (x_assignSl rfl) ?_
    refine RL.val (x_assignI rfl) ?_
    refine RL.nil ?_
    refine Run.seq ?_
    refine Run.region ?_
    refine RL.val (x_moveP rfl) ?_
    refine RL.val (x_fld (o' := 0) Try.underlying93 rfl ty9 rfl rfl rfl) ?_
    refine RL.val (x_ld (v := .string (r.name)) ty9 rfl rfl (hb_46.cl.field (i := 0) rfl)) ?_
    refine RL.st rfl <| St1.call (vals := [.pointer (some ⟨d, 0, none⟩), .string (r.name)]) en13 rfl (sizeD hA r.name (by first | omega | decide)) ?_
    rintro _ w_71 ⟨rfl, K_72⟩
    replace hb := hb.ext K_72
    replace ho := ho.ext K_72
    replace hy := hy.ext K_72
    replace hA := hA.ext K_72
    replace ho_12 := ho_12.ext K_72
    replace ho_23 := ho_23.ext K_72
    replace hb_46 := hb_46.ext K_72
    replace ho_60 := ho_60.ext K_72
    replace K0 := K0.ext K_72
    refine RL.val (x_moveT rfl) ?_
    refine RL.val (x_extract rfl rfl) ?_
    refine RL.val (x_extract rfl rfl) ?_
    refine RL.val (x_extract rfl rfl) ?_
    refine RL.val (x_assignI rfl) ?_
    refine RL.val (x_assignI rfl) ?_
    refine RL.val (x_assignI rfl) ?_
    refine RL.nil ?_
    refine Run.seq ?_
    refine Run.seq ?_
    refine Run.region ?_
    refine RL.val (x_moveI rfl) ?_
    refine RL.val (x_neI rfl rfl) ?_
    refine RL.val (x_moveB rfl) ?_
    refine RL.gval (wantedF rfl rfl rfl rfl) (fun hg => (x_moveI rfl)) ?_
    refine RL.gval (wantedF rfl rfl rfl rfl) (fun hg => (x_neI (gvr hg) rfl)) ?_
    refine RL.val (x_or rfl rfl rfl) ?_
    refine RL.val (x_moveB rfl) ?_
    refine RL.gval (wantedF rfl rfl rfl rfl) (fun hg => (x_moveSl rfl)) ?_
    refine RL.gval (wantedF rfl rfl rfl rfl) (fun hg => (x_fld (o' := 1) Try.underlying93 rfl ty26 rfl rfl rfl)) ?_
    refine RL.gval (wantedF rfl rfl rfl rfl) (fun hg => (x_ld (v := .slice (r.a) (r.bytes.length) (r.cap)) ty26 (gvr hg) rfl (hb_46.cl.field (i := 1) rfl))) ?_
    refine RL.gcall (vals := [.slice (a_57) ((readB pl r.name).length) (c_58), .slice (r.a) (r.bytes.length) (r.cap)]) (wantedF rfl rfl rfl rfl) en47 (fun hg => (mcons (gvr hg) (mcons (gvr hg) mnil))) (fun hg => (equal_byte _ _ _ _ _ _ _ ho_60.sl (hy.all r (List.mem_of_getElem? hr)).1 (by omega))) ?_
    intro w_73 K_74
    replace hb := hb.ext K_74
    replace ho := ho.ext K_74
    replace hy := hy.ext K_74
    replace hA := hA.ext K_74
    replace ho_12 := ho_12.ext K_74
    replace ho_23 := ho_23.ext K_74
    replace hb_46 := hb_46.ext K_74
    replace ho_60 := ho_60.ext K_74
    replace K0 := K0.ext K_74
    refine RL.gval (wantedF rfl rfl rfl rfl) (fun hg => (x_not (gvr hg))) ?_
    refine RL.val (x_or rfl rfl rfl) ?_
    refine RL.val (x_moveB rfl) ?_
    refine RL.gval (wantedF rfl rfl rfl rfl) (fun hg => (x_moveI rfl)) ?_
    refine RL.gval (wantedF rfl rfl rfl rfl) (fun hg => (x_fld (o' := 1) Try.underlying93 rfl ty26 rfl rfl rfl)) ?_
    refine RL.gval (wantedF rfl rfl rfl rfl) (fun hg => (x_ld (v := .slice (r.a) (r.bytes.length) (r.cap)) ty26 (gvr hg) rfl (hb_46.cl.field (i := 1) rfl))) ?_
    refine RL.gval (wantedF rfl rfl rfl rfl) (fun hg => (x_lenSl Try.underlying26 (gvr hg))) ?_
    refine RL.gval (wantedF rfl rfl rfl rfl) (fun hg => (x_neI (gvr hg) (gvr hg))) ?_
    refine RL.val (x_or rfl rfl rfl) ?_
    refine RL.val (x_moveB rfl) ?_
    refine RL.gval (wantedF rfl rfl rfl rfl) (fun hg => (x_moveI rfl)) ?_
    refine RL.gval (wantedF rfl rfl rfl rfl) (fun hg => (x_fld (o' := 2) Try.underlying93 rfl ty3 rfl rfl rfl)) ?_
    refine RL.gval (wantedF rfl rfl rfl rfl) (fun hg => (x_ld (v := .int .i64 (((r.synced : Nat) : Int))) ty3 (gvr hg) rfl (hb_46.cl.field (i := 2) rfl))) ?_
    refine RL.gval (wantedF rfl rfl rfl rfl) (fun hg => (x_neI (gvr hg) (gvr hg))) ?_
    refine RL.val (x_or rfl rfl rfl) ?_
    refine RL.nil ?_
    refine Run.cond rfl (fun hc83 => ?_) (fun hc83 => ?_)
    · try simp only [br] at hc83
      rcases hc83 with (((h | h) | h) | h) | h
      · exact absurd hf1 h
      · exact absurd hf1 h
      · exact absurd hf2 h
      · exact absurd (by rw [hf3]) h
      · exact absurd (by rw [hf4]) h
    · try simp only [br] at hc83
      refine Run.skip ?_
      refine Run.region ?_
      refine RL.val (x_moveSl rfl) ?_
      refine RL.st rfl <| St1.call (vals := [.slice (a_57) ((readB pl r.name).length) (c_58), .slice (none) (0) (0)]) en44 rfl (spoil_ a_57 (readB pl r.name) c_58 none [] 0 _ ho_60 (SlOf.nil _ _) (LeftAt.nil _) (fun q_ ⟨_, h_, _⟩ => absurd h_ (by simp)) (fun x_ h_ => by cases h_) (by omega) (by simp)) ?_
      rintro _ w_75 ⟨rfl, K_76⟩
      replace K_76 := K_76.mono (S' := own a_57) (fun q_ _ h_ => h_.elim id (fun ⟨_, h_, _⟩ => absurd h_ (by simp)))
      replace hb := hb.keep K_76 pr_63
      replace ho := ho.keepO K_76 (fun q_ h1 h2 => pr_64 q_ h2 h1)
      replace hy := hy.keepO K_76 (fun q_ h1 h2 => pr_65 q_ h2 h1)
      replace hA := hA.keepO K_76 (fun q_ h1 h2 => pr_66 q_ h2 h1)
      replace ho_12 := ho_12.keepO K_76 (fun q_ h1 h2 => pr_67 q_ h2 h1)
      replace ho_23 := ho_23.keepO K_76 (fun q_ h1 h2 => pr_68 q_ h2 h1)
      replace hb_46 := hb_46.keep K_76 pr_69
      replace K0 := K0.new K_76 pg_70
      refine RL.nil ?_
      refine Run.inBlock ?_
      refine Run.region ?_
      refine RL.val (litI (c := ((i + 1 : Nat) : Int)) (x_add rfl rfl (by omega) (by omega)) rfl) ?_
      refine RL.val (x_moveI rfl) ?_
      refine RL.nil ?_
      refine ih1 (i + 1) _ _ ?_ (by omega)
      refine ⟨⟨rfl, rfl, rfl, rfl, trivial⟩, K0, hb, ho, hy, hA, ho_12, ho_23, ?_⟩
      · omega
  · try simp only [br] at hc40
    refine Run.exit rfl ?_
    refine Run.seq ?_
    refine Run.region ?_
    refine RL.val (x_assignB rfl) ?_
    refine RL.nil ?_
    refine Run.ret1 (v := .bool (true)) Try.func31 rfl rfl ?_
    exact ⟨_, rfl, rfl, K0⟩

end Go.Proofs.Ytambibdkanpmaaa
