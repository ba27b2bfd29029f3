/-
  The reference's disk, second part.
-/
import Derived.Test.YtambibdkanpmaaaRows
import Derived.Test.YtambibdkanpmaaaDn
namespace Go.Proofs.Ytambibdkanpmaaa
attribute [local irreducible] St1 RL RA RT RT1 Run

section
variable {w w' : World} {x : Nat} {al al' : Option Addr} {cl cl' : Nat} {room : Int} {rs rs' : List RF} {n : ByteArray}
theorem nm_snoc {i : Nat} {r : RF} {y : FileC} (h : rs[i]? = some r) (e : y.name = r.name) : (rs.take i).map RF.name ++ [y.name] = (rs.take (i + 1)).map RF.name := by rw [take_snoc h, List.map_append, e]; rfl
theorem rc_val {y : FileC} {r : RF} (e : y = r.c) : (⟨y.name, ⟨y.b.a, y.b.len, y.b.cap⟩, y.synced⟩ : FileC) = r.c := by rw [e]
end



set_option maxRecDepth 100000 in
set_option maxHeartbeats 4000000 in
theorem filesR (x : Nat) (al : Option Addr) (cl : Nat) (room : Int) (rs : List RF) (w : World) (hD : RefM w x al cl room rs) (hl : rs.length ≤ 65) :
    Calls Try.prog 46 #[.pointer (some ⟨x, 0, none⟩)] w (Ret (fun v w' => ∃ a c, v = .slice a (rs.map RF.name).length c ∧ OwnSl w' 9 a c (rs.map RF.name) ∧ (∀ q, own a q → w.heap.size ≤ q) ∧ Ext w w')) := by
  obtain ⟨hb, ho, hy, hox, hbx, hbo⟩ := hD
  have hml : (rs.map RF.c).length = rs.length := List.length_map ..
  refine calls_run (n := 26) Try.func46 rfl rfl rfl ?_
  refine Run.seq ?_
  refine Run.region ?_
  refine RL.val (x_assignSl rfl) ?_
  refine RL.nil ?_
  refine Run.seq ?_
  refine Run.region ?_
  refine RL.val (x_assignSl rfl) ?_
  refine RL.nil ?_
  refine Run.seq ?_
  refine Run.seq ?_
  refine Run.region ?_
  refine RL.val (x_assignI rfl) ?_
  refine RL.nil ?_
  refine Run.block ?_
  refine Run.loop (ι := Nat) (fun i ρ' w' => ∃ ao : Option Addr, ∃ co : Nat, Holds ρ' [(0, .pointer (some ⟨x, 0, none⟩)), (3, .slice (ao) (((rs.take i).map RF.name).length) (co)), (4, .int .i64 (((i : Nat) : Int)))] ∧ Ext w w' ∧ (Blk w' x [.int .i64 (room), .slice (al) ((rs.map RF.c).length) (cl)] 89) ∧ (OwnSl w' 93 (al) (cl) (rs.map RF.c)) ∧ (BytesAt w' rs) ∧ (OwnSl w' 9 ao co ((rs.take i).map RF.name)) ∧ (¬ own ao x) ∧ (∀ q_, own ao q_ → ¬ own al q_) ∧ (∀ q_, own ao q_ → ¬ bytesS rs q_) ∧ (∀ q_, own ao q_ → w.heap.size ≤ q_) ∧ (i ≤ rs.length)) (fun i => rs.length - i) 0 ?_ ?_
  · have ho_8 := OwnSl.nil (α := ByteArray) w 9
    refine ⟨_, _, ⟨rfl, rfl, rfl, trivial⟩, (Keeps.refl _ w), hb, ho, hy, ho_8, (own_none x), (fun q_ h1 _ => own_none q_ h1), (fun q_ h1 _ => own_none q_ h1), (fun q_ h1 => absurd h1 (own_none q_)), ?_⟩
    · omega
  clear hb ho hy
  rintro i ρ_9 w_1 ⟨ao, co, hH_2, K0, hb, ho, hy, ho_3, pr_4, pr_5, pr_6, pr_7, hi⟩ ih1
  obtain ⟨ρ₀, rfl⟩ := hH_2.ex
  clear hH_2
  refine Run.seq ?_
  refine Run.seq ?_
  refine Run.region ?_
  refine RL.val (x_moveI rfl) ?_
  refine RL.val (x_moveP rfl) ?_
  refine RL.val (x_nilCheck rfl) ?_
  refine RL.val (x_fld (o' := 1) Try.underlying89 rfl ty87 rfl rfl rfl) ?_
  refine RL.val (x_ld (v := .slice (al) ((rs.map RF.c).length) (cl)) ty87 rfl rfl (hb.cl.field (i := 1) rfl)) ?_
  refine RL.val (x_lenSl Try.underlying87 rfl) ?_
  refine RL.val (x_ltI rfl rfl) ?_
  refine RL.nil ?_
  refine Run.cond rfl (fun hc11 => ?_) (fun hc11 => ?_)
  · try simp only [br] at hc11
    refine Run.skip ?_
    refine Run.seq ?_
    refine Run.block ?_
    refine Run.region ?_
    refine RL.val (x_moveSl rfl) ?_
    refine RL.val (x_moveP rfl) ?_
    refine RL.val (x_nilCheck rfl) ?_
    refine RL.val (x_fld (o' := 1) Try.underlying89 rfl ty87 rfl rfl rfl) ?_
    refine RL.val (x_ld (v := .slice (al) ((rs.map RF.c).length) (cl)) ty87 rfl rfl (hb.cl.field (i := 1) rfl)) ?_
    refine RL.val (x_moveI rfl) ?_
    obtain ⟨b_10, o_11, y, hx, ha_12, hc_13⟩ := ho.sl.el (i := i) (by first | omega | (simp only [List.length_set]; omega))
    refine RL.val (x_idxN Try.underlying87 ty93 rfl rfl ha_12 (by first | omega | (simp only [List.length_set]; omega))) ?_
    obtain ⟨r, hr, hxr⟩ := rf_get hx
    have hn_r : y.name = r.name := by rw [hxr]; rfl
    refine RL.val (x_fld (o' := o_11 + i * 3 + 0) Try.underlying93 rfl ty9 rfl rfl rfl) ?_
    refine RL.val (x_ld ty9 rfl rfl (hc_13.field (i := 0) rfl)) ?_
    refine RL.st rfl <| St1.buildSlice ([(y).name] : List ByteArray) Try.underlying40 ty9 rfl rfl (by first | decide | (simp [Enc.size])) ?_
    intro b_16 w_17 hl_20 ho_19 K_18
    have pr_21 : ¬ own (some ⟨b_16, 0, none⟩) x := notNew (ge_new hl_20) hb.lt
    have pr_22 : ∀ q_, own (some ⟨b_16, 0, none⟩) q_ → ¬ own al q_ := apartNew (ge_new hl_20) ho.own_lt
    have pr_23 : ∀ q_, own (some ⟨b_16, 0, none⟩) q_ → ¬ bytesS rs q_ := apartNew (ge_new hl_20) hy.own_lt
    have pr_24 : ∀ q_, own (some ⟨b_16, 0, none⟩) q_ → ¬ own ao q_ := apartNew (ge_new hl_20) ho_3.own_lt
    have pg_25 : ∀ q_, own (some ⟨b_16, 0, none⟩) q_ → w.heap.size ≤ q_ := fun q_ h => Nat.le_trans K0.size ((ge_new hl_20) q_ h)
    clear hl_20
    replace hb := hb.ext K_18
    replace ho := ho.ext K_18
    replace hy := hy.ext K_18
    replace ho_3 := ho_3.ext K_18
    replace hc_13 := hc_13.ext K_18
    replace K0 := K0.ext K_18
    refine RL.st rfl <| St1.append (xs := (rs.take i).map RF.name) (ys := ([(y).name] : List ByteArray)) Try.underlying40 ty9 rfl rfl rfl ho_3 ho_19.sl (by rw [List.length_map, List.length_take]; simp only [lr]; omega) (by decide) ?_
    intro a_26 c_27 w_28 ho_29 K_30 hm_31 hrm_32
    have pr_33 : ¬ own a_26 x := hm_31.not pr_4 hb.lt
    have pr_34 : ∀ q_, own a_26 q_ → ¬ own al q_ := hm_31.apart pr_5 ho.own_lt
    have pr_35 : ∀ q_, own a_26 q_ → ¬ bytesS rs q_ := hm_31.apart pr_6 hy.own_lt
    have pr_36 : ∀ q_, own a_26 q_ → ¬ own (some ⟨b_16, 0, none⟩) q_ := hm_31.apart (fun q_ h1 h2 => pr_24 q_ h2 h1) ho_19.own_lt
    have pg_37 : ∀ q_, own a_26 q_ → w.heap.size ≤ q_ := hm_31.ge pr_7 K0.size
    replace hb := hb.keep K_30 pr_4
    replace ho := ho.keepO K_30 (fun q_ h1 h2 => pr_5 q_ h2 h1)
    replace hy := hy.keepO K_30 (fun q_ h1 h2 => pr_6 q_ h2 h1)
    replace hc_13 := hc_13.keep K_30 (fun h => (fun q_ h1 h2 => pr_5 q_ h2 h1) _ ((own_sub _) _ ha_12) h)
    replace ho_19 := ho_19.keepO K_30 pr_24
    replace K0 := K0.new K_30 pr_7
    clear hm_31
    clear hrm_32
    refine RL.val (x_assignSl rfl) ?_
    refine RL.nil ?_
    rw [nm_snoc hr hn_r] at ho_29 ⊢
    refine Run.inBlock ?_
    refine Run.region ?_
    refine RL.val (x_moveI rfl) ?_
    refine RL.val (litI (c := ((i + 1 : Nat) : Int)) (x_add rfl rfl (by omega) (by omega)) rfl) ?_
    refine RL.val (x_assignI rfl) ?_
    refine RL.nil ?_
    refine ih1 (i + 1) _ _ ?_ (by omega)
    refine ⟨_, _, ⟨rfl, rfl, rfl, trivial⟩, K0, hb, ho, hy, ho_29, pr_33, pr_34, pr_35, pg_37, ?_⟩
    · omega
  · try simp only [br] at hc11
    refine Run.exit rfl ?_
    refine Run.seq ?_
    refine Run.region ?_
    refine RL.val (x_moveSl rfl) ?_
    refine RL.val (x_assignSl rfl) ?_
    refine RL.nil ?_
    refine Run.ret1 (v := .slice (ao) (((rs.take i).map RF.name).length) (co)) Try.func46 rfl rfl ?_
    have hil : i = rs.length := by omega
    rw [hil, List.take_length] at ho_3 ⊢
    exact ⟨_, rfl, ao, co, rfl, ho_3, pr_7, K0⟩

set_option maxRecDepth 100000 in
set_option maxHeartbeats 4000000 in
theorem withoutR (x : Nat) (al : Option Addr) (cl : Nat) (room : Int) (rs : List RF) (name : ByteArray) (w : World) (hD : RefM w x al cl room rs) (hl : rs.length ≤ 65) :
    Calls Try.prog 66 #[.pointer (some ⟨x, 0, none⟩), .string (name)] w (Ret (fun v w' => v = .tuple #[] ∧ ∃ al' cl', RefM w' x al' cl' room (keepR name rs rs.length) ∧ (∀ q, own al' q → w.heap.size ≤ q) ∧ Keeps (writeS x al) w w')) := by
  obtain ⟨hb, ho, hy, hox, hbx, hbo⟩ := hD
  have hml : (rs.map RF.c).length = rs.length := List.length_map ..
  refine calls_run (n := 39) Try.func66 rfl rfl rfl ?_
  refine Run.seq ?_
  refine Run.region ?_
  refine RL.val (x_assignSl rfl) ?_
  refine RL.nil ?_
  refine Run.seq ?_
  refine Run.seq ?_
  refine Run.region ?_
  refine RL.val (x_assignI rfl) ?_
  refine RL.nil ?_
  refine Run.block ?_
  refine Run.loop (ι := Nat) (fun i ρ' w' => ∃ ao : Option Addr, ∃ co : Nat, Holds ρ' [(0, .pointer (some ⟨x, 0, none⟩)), (1, .string (name)), (4, .slice (ao) (((keepR name rs i).map RF.c).length) (co)), (5, .int .i64 (((i : Nat) : Int)))] ∧ Keeps (writeS x al) w w' ∧ (Blk w' x [.int .i64 (room), .slice (al) ((rs.map RF.c).length) (cl)] 89) ∧ (OwnSl w' 93 (al) (cl) (rs.map RF.c)) ∧ (BytesAt w' rs) ∧ (OwnSl w' 93 ao co ((keepR name rs i).map RF.c)) ∧ (¬ own ao x) ∧ (∀ q_, own ao q_ → ¬ own al q_) ∧ (∀ q_, own ao q_ → ¬ bytesS rs q_) ∧ (∀ q_, own ao q_ → q_ < w.heap.size → (writeS x al) q_) ∧ (∀ q_, own ao q_ → w.heap.size ≤ q_) ∧ (i ≤ rs.length)) (fun i => rs.length - i) 0 ?_ ?_
  · have ho_9 := OwnSl.nil (α := FileC) w 93
    refine ⟨_, _, ⟨rfl, rfl, rfl, rfl, trivial⟩, (Keeps.refl _ w), hb, ho, hy, ho_9, (own_none x), (fun q_ h1 _ => own_none q_ h1), (fun q_ h1 _ => own_none q_ h1), (fun q_ h1 _ => absurd h1 (own_none q_)), (fun q_ h1 => absurd h1 (own_none q_)), ?_⟩
    · omega
  clear hb ho hy
  rintro i ρ_10 w_1 ⟨ao, co, hH_2, K0, hb, ho, hy, ho_3, pr_4, pr_5, pr_6, pr_7, pr_8, hi⟩ ih1
  obtain ⟨ρ₀, rfl⟩ := hH_2.ex
  clear hH_2
  refine Run.seq ?_
  refine Run.seq ?_
  refine Run.region ?_
  refine RL.val (x_moveI rfl) ?_
  refine RL.val (x_moveP rfl) ?_
  refine RL.val (x_nilCheck rfl) ?_
  refine RL.val (x_fld (o' := 1) Try.underlying89 rfl ty87 rfl rfl rfl) ?_
  refine RL.val (x_ld (v := .slice (al) ((rs.map RF.c).length) (cl)) ty87 rfl rfl (hb.cl.field (i := 1) rfl)) ?_
  refine RL.val (x_lenSl Try.underlying87 rfl) ?_
  refine RL.val (x_ltI rfl rfl) ?_
  refine RL.nil ?_
  refine Run.cond rfl (fun hc12 => ?_) (fun hc12 => ?_)
  · try simp only [br] at hc12
    refine Run.skip ?_
    refine Run.seq ?_
    refine Run.block ?_
    refine Run.seq ?_
    refine Run.region ?_
    refine RL.val (x_moveP rfl) ?_
    refine RL.val (x_nilCheck rfl) ?_
    refine RL.val (x_fld (o' := 1) Try.underlying89 rfl ty87 rfl rfl rfl) ?_
    refine RL.val (x_ld (v := .slice (al) ((rs.map RF.c).length) (cl)) ty87 rfl rfl (hb.cl.field (i := 1) rfl)) ?_
    refine RL.val (x_moveI rfl) ?_
    obtain ⟨b_11, o_12, y, hx, ha_13, hc_14⟩ := ho.sl.el (i := i) (by first | omega | (simp only [List.length_set]; omega))
    refine RL.val (x_idxN Try.underlying87 ty93 rfl rfl ha_13 (by first | omega | (simp only [List.length_set]; omega))) ?_
    refine RL.val (x_fld (o' := o_12 + i * 3 + 0) Try.underlying93 rfl ty9 rfl rfl rfl) ?_
    refine RL.val (x_ld ty9 rfl rfl (hc_14.field (i := 0) rfl)) ?_
    refine RL.val (x_moveS rfl) ?_
    refine RL.val (x_neS rfl rfl) ?_
    refine RL.nil ?_
    obtain ⟨r, hr, hxr⟩ := rf_get hx
    have hn_r : y.name = r.name := by rw [hxr]; rfl
    refine Run.cond rfl (fun hc24 => ?_) (fun hc24 => ?_)
    · try simp only [br] at hc24
      refine Run.region ?_
      refine RL.val (x_moveSl rfl) ?_
      refine RL.val (x_moveP rfl) ?_
      refine RL.val (x_nilCheck rfl) ?_
      refine RL.val (x_fld (o' := 1) Try.underlying89 rfl ty87 rfl rfl rfl) ?_
      refine RL.val (x_ld (v := .slice (al) ((rs.map RF.c).length) (cl)) ty87 rfl rfl (hb.cl.field (i := 1) rfl)) ?_
      refine RL.val (x_moveI rfl) ?_
      obtain ⟨b_17, o_18, y2, hx2, ha_19, hc_20⟩ := ho.sl.el (i := i) (by first | omega | (simp only [List.length_set]; omega))
      obtain rfl : y = y2 := Option.some.inj (hx.symm.trans hx2)
      refine RL.val (x_idxN Try.underlying87 ty93 rfl rfl ha_19 (by first | omega | (simp only [List.length_set]; omega))) ?_
      refine RL.val (x_ldV (v := .agg #[.string ((y).name), .slice ((y).b.a) ((y).b.len) ((y).b.cap), .int .i64 ((y).synced)]) (y := y) ty93 rfl hc_20 rfl) ?_
      refine RL.st rfl <| St1.buildSlice ([y] : List FileC) Try.underlying87 ty93 rfl rfl (by first | decide | (simp [Enc.size])) ?_
      intro b_23 w_24 hl_27 ho_26 K_25
      have pr_28 : ¬ own (some ⟨b_23, 0, none⟩) x := notNew (ge_new hl_27) hb.lt
      have pr_29 : ∀ q_, own (some ⟨b_23, 0, none⟩) q_ → ¬ own al q_ := apartNew (ge_new hl_27) ho.own_lt
      have pr_30 : ∀ q_, own (some ⟨b_23, 0, none⟩) q_ → ¬ bytesS rs q_ := apartNew (ge_new hl_27) hy.own_lt
      have pr_31 : ∀ q_, own (some ⟨b_23, 0, none⟩) q_ → ¬ own ao q_ := apartNew (ge_new hl_27) ho_3.own_lt
      have pg_32 : ∀ q_, own (some ⟨b_23, 0, none⟩) q_ → q_ < w.heap.size → (writeS x al) q_ := fun q_ h hlt => absurd (Nat.le_trans K0.size ((ge_new hl_27) q_ h)) (by omega)
      have pw_33 : ∀ q_, own (some ⟨b_23, 0, none⟩) q_ → w.heap.size ≤ q_ := fun q_ h => Nat.le_trans K0.size ((ge_new hl_27) q_ h)
      clear hl_27
      replace hb := hb.ext K_25
      replace ho := ho.ext K_25
      replace hy := hy.ext K_25
      replace ho_3 := ho_3.ext K_25
      replace hc_20 := hc_20.ext K_25
      replace K0 := K0.ext K_25
      refine RL.st rfl <| St1.append (xs := (keepR name rs i).map RF.c) (ys := ([y] : List FileC)) Try.underlying87 ty93 rfl rfl rfl ho_3 ho_26.sl (by have := keepR_len name rs i; rw [List.length_map]; simp only [lr]; omega) (by decide) ?_
      intro a_34 c_35 w_36 ho_37 K_38 hm_39 hrm_40
      have pr_41 : ¬ own a_34 x := hm_39.not pr_4 hb.lt
      have pr_42 : ∀ q_, own a_34 q_ → ¬ own al q_ := hm_39.apart pr_5 ho.own_lt
      have pr_43 : ∀ q_, own a_34 q_ → ¬ bytesS rs q_ := hm_39.apart pr_6 hy.own_lt
      have pr_44 : ∀ q_, own a_34 q_ → ¬ own (some ⟨b_23, 0, none⟩) q_ := hm_39.apart (fun q_ h1 h2 => pr_31 q_ h2 h1) ho_26.own_lt
      have pg_45 : ∀ q_, own a_34 q_ → q_ < w.heap.size → (writeS x al) q_ := hm_39.inS pr_7 K0.size
      have pw_46 : ∀ q_, own a_34 q_ → w.heap.size ≤ q_ := hm_39.ge pr_8 K0.size
      replace hb := hb.keep K_38 pr_4
      replace ho := ho.keepO K_38 (fun q_ h1 h2 => pr_5 q_ h2 h1)
      replace hy := hy.keepO K_38 (fun q_ h1 h2 => pr_6 q_ h2 h1)
      replace hc_20 := hc_20.keep K_38 (fun h => (fun q_ h1 h2 => pr_5 q_ h2 h1) _ ((own_sub _) _ ha_19) h)
      replace ho_26 := ho_26.keepO K_38 pr_31
      replace K0 := K0.trans K_38 (fun x hlt hx => pr_7 x hx hlt)
      clear hm_39
      clear hrm_40
      refine RL.val (x_assignSl rfl) ?_
      refine RL.nil ?_
      rw [show [y] = [r.c] from by rw [hxr], keepR_yes hr (fun e_ => hc24 (by rw [hn_r]; exact e_))] at ho_37 ⊢
      refine Run.inBlock ?_
      refine Run.region ?_
      refine RL.val (x_moveI rfl) ?_
      refine RL.val (litI (c := ((i + 1 : Nat) : Int)) (x_add rfl rfl (by omega) (by omega)) rfl) ?_
      refine RL.val (x_assignI rfl) ?_
      refine RL.nil ?_
      refine ih1 (i + 1) _ _ ?_ (by omega)
      refine ⟨_, _, ⟨rfl, rfl, rfl, rfl, trivial⟩, K0, hb, ho, hy, ho_37, pr_41, pr_42, pr_43, pg_45, pw_46, ?_⟩
      · omega
    · try simp only [br] at hc24
      refine Run.skip ?_
      refine Run.inBlock ?_
      refine Run.region ?_
      refine RL.val (x_moveI rfl) ?_
      refine RL.val (litI (c := ((i + 1 : Nat) : Int)) (x_add rfl rfl (by omega) (by omega)) rfl) ?_
      refine RL.val (x_assignI rfl) ?_
      refine RL.nil ?_
      have e_ := keepR_no hr (hn_r.symm.trans (by simpa using hc24))
      refine ih1 (i + 1) _ _ ?_ (by omega)
      rw [e_]
      refine ⟨_, _, ⟨rfl, rfl, rfl, rfl, trivial⟩, K0, hb, ho, hy, ho_3, pr_4, pr_5, pr_6, pr_7, pr_8, ?_⟩
      · omega
  · try simp only [br] at hc12
    refine Run.exit rfl ?_
    refine Run.region ?_
    refine RL.val (x_moveP rfl) ?_
    refine RL.val (x_moveSl rfl) ?_
    refine RL.val (x_nilCheck rfl) ?_
    refine RL.val (x_fld (o' := 1) Try.underlying89 rfl ty87 rfl rfl rfl) ?_
    refine RL.st rfl <| St1.store (v := .slice (ao) (((keepR name rs i).map RF.c).length) (co)) ty87 rfl rfl rfl (by simp [Value.cells, Value.oneCell']) hb (by simp) ?_
    intro w_47 hb_ K_48
    have hb' : Blk w_47 x [.int .i64 (room), .slice (ao) (((keepR name rs i).map RF.c).length) (co)] 89 := hb_
    clear hb_
    replace ho := ho.keepO K_48 (fun q_ hq_ eq_ => hox (by simp only [one] at eq_; rw [← eq_]; exact hq_))
    replace hy := hy.keepO K_48 (fun q_ hq_ eq_ => hbx (by simp only [one] at eq_; rw [← eq_]; exact hq_))
    replace ho_3 := ho_3.keepO K_48 (fun q_ hq_ eq_ => pr_4 (by simp only [one] at eq_; rw [← eq_]; exact hq_))
    replace K0 := K0.trans K_48 (fun x _ hx => by simp only [one] at hx; subst hx; exact (Or.inl rfl))
    replace hb := hb'
    clear hb'
    refine RL.nil ?_
    refine Run.fin0 Try.func66 rfl ?_
    have hil : i = rs.length := by omega
    rw [hil] at hb ho_3
    exact ⟨_, rfl, rfl, ao, co, ⟨hb, ho_3, hy.sub (keepR_sub name rs rs.length), pr_4, fun h_ => hbx (bytesS_sub (keepR_sub name rs rs.length) _ h_), fun q_ h1 h2 => (fun q_ h1 h2 => pr_6 q_ h2 h1) q_ (bytesS_sub (keepR_sub name rs rs.length) q_ h1) h2⟩, pr_8, K0⟩

end Go.Proofs.Ytambibdkanpmaaa
