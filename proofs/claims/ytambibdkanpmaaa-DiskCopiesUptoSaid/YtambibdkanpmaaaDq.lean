/-
  The reference's disk, fourth part.
-/
import Derived.Test.YtambibdkanpmaaaRows
import Derived.Test.YtambibdkanpmaaaDp
namespace Go.Proofs.Ytambibdkanpmaaa
attribute [local irreducible] St1 RL RA RT RT1 Run

theorem en45 : Enters Try.prog 45 := enters_of Try.func45 rfl (by kernel_rfl)
theorem en64 : Enters Try.prog 64 := enters_of Try.func64 rfl (by kernel_rfl)

set_option maxRecDepth 100000 in
set_option maxHeartbeats 4000000 in
theorem appendR (x : Nat) (al : Option Addr) (cl : Nat) (room : Int) (rs : List RF) (name : ByteArray) (a : Option Addr) (b : List UInt8) (c : Nat) (w : World) (hD : RefO w x al cl room rs) (hs : name.size ≤ 4294967295) (hsl : SlOf w a b) (hdis : ∀ q, a = some q → b ≠ [] → ¬ refS x al rs q.block) (hbl : b.length ≤ 4294967295) :
    Calls Try.prog 52 #[.pointer (some ⟨x, 0, none⟩), .string (name), .slice (a) (b.length) (c)] w (Ret (fun v w' => ∃ al' cl' rs', v = .int .i64 (appE room (rs.map RF.p) name b) ∧ RefO w' x al' cl' room rs' ∧ (rs'.map RF.p).Perm (appL room (rs.map RF.p) name b) ∧ (∀ q, refS x al' rs' q → q < w.heap.size → refS x al rs q) ∧ Keeps (refS x al rs) w w')) := by
  obtain ⟨⟨hb, ho, hy, hox, hbx, hbo⟩, hok, hso⟩ := hD
  have hml : (rs.map RF.c).length = rs.length := List.length_map ..
  have hnd := RefO.names hok
  have hl : rs.length ≤ 64 := by have := hok.len; rwa [List.length_map] at this
  have hroom := hok.room
  have hused := hok.used
  refine calls_run (n := 65) Try.func52 rfl rfl rfl ?_
  refine Run.seq ?_
  refine Run.region ?_
  refine RL.val (x_assignI rfl) ?_
  refine RL.nil ?_
  refine Run.seq ?_
  refine Run.seq ?_
  refine Run.region ?_
  refine RL.val (x_moveS rfl) ?_
  refine RL.st rfl <| St1.call (vals := [.string (name)]) en62 rfl (mayR name _ (by omega)) ?_
  rintro _ w_1 ⟨rfl, K_2⟩
  replace hb := hb.ext K_2
  replace ho := ho.ext K_2
  replace hy := hy.ext K_2
  have K0 := (K_2 : Ext w _).to (S := (refS x al rs))
  refine RL.val (x_not rfl) ?_
  refine RL.nil ?_
  refine Run.cond rfl (fun hc11 => ?_) (fun hc11 => ?_)
  · try simp only [br] at hc11
    refine Run.seq ?_
    refine Run.region ?_
    refine RL.val (x_assignI rfl) ?_
    refine RL.nil ?_
    refine Run.ret1 (v := .int .i64 (6)) Try.func52 rfl rfl ?_
    exact ⟨_, rfl, al, cl, rs, by rw [appE_bad (by simpa using hc11)], ⟨⟨hb, ho, hy, hox, hbx, hbo⟩, hok, hso⟩, by rw [appL_no (by rw [appE_bad (by simpa using hc11)]; decide)], fun _ h _ => h, K0⟩
  · try simp only [br] at hc11
    have hmy : mayN name = true := by simpa using hc11
    refine Run.skip ?_
    refine Run.seq ?_
    refine Run.region ?_
    refine RL.val (x_moveP rfl) ?_
    refine RL.val (x_moveS rfl) ?_
    refine RL.st rfl <| St1.call (vals := [.pointer (some ⟨x, 0, none⟩), .string (name)]) en63 rfl (findR x al cl room rs name _ (⟨hb, ho, hy, hox, hbx, hbo⟩ : RefM _ x al cl room rs) (by omega)) ?_
    rintro _ w_3 ⟨rfl, K_4⟩
    rcases rfind rs name with ⟨hrno, hf_5⟩ | ⟨ri, r, hr, hrn, hf_5⟩
    · rw [hf_5]
      replace hb := hb.ext K_4
      replace ho := ho.ext K_4
      replace hy := hy.ext K_4
      replace K0 := K0.ext K_4
      refine RL.val (x_assignI rfl) ?_
      refine RL.nil ?_
      refine Run.seq ?_
      refine Run.seq ?_
      refine Run.drawT [] (m := 22) (by kernel_rfl) rfl ?_
      intro w_6 K_7
      replace hb := hb.ext K_7
      replace ho := ho.ext K_7
      replace hy := hy.ext K_7
      replace K0 := K0.ext K_7
      refine ⟨fun w' => Blk w' x [.int .i64 (room), .slice (al) ((rs.map RF.c).length) (cl)] 89 ∧ True, ?_⟩
      refine RT.takeP (v := .int .i64 (-1)) 0 rfl (by kernel_rfl) (.inr ⟨hb, trivial⟩) (fun _ => (x_moveI rfl)) ?_
      refine RT.takeP (v := .bool (true)) 1 rfl (by kernel_rfl) (.inr ⟨hb, trivial⟩) (fun _ => (litT (x_ltI rfl rfl) (by decide))) ?_
      refine RT.takeP (v := .bool (true)) 2 rfl (by kernel_rfl) (.inr ⟨hb, trivial⟩) (fun _ => (x_moveB rfl)) ?_
      refine RT.gtakeP (v := .pointer (some ⟨x, 0, none⟩)) 3 rfl (by kernel_rfl) (.inr ⟨hb, trivial⟩) (wantedT1 rfl rfl rfl rfl) (fun hg _ => (x_moveP rfl)) ?_
      refine RT.gtakeP (v := .pointer (some ⟨x, 0, none⟩)) 4 rfl (by kernel_rfl) (.inr ⟨hb, trivial⟩) (wantedT1 rfl rfl rfl rfl) (fun hg _ => (x_nilCheck rfl)) ?_
      refine RT.gtakeP (v := .pointer (some ⟨x, 1, none⟩)) 5 rfl (by kernel_rfl) (.inr ⟨hb, trivial⟩) (wantedT1 rfl rfl rfl rfl) (fun hg _ => (x_fld (o' := 1) Try.underlying89 rfl ty87 rfl rfl rfl)) ?_
      refine RT.gtake (v := .slice (al) ((rs.map RF.c).length) (cl)) 6 rfl (by kernel_rfl) ⟨hb, trivial⟩ (wantedT1 rfl rfl rfl rfl) (fun hg => by rintro _ ⟨hb, -⟩; exact (x_ld (v := .slice (al) ((rs.map RF.c).length) (cl)) ty87 rfl rfl (hb.cl.field (i := 1) rfl))) ?_
      refine RT.gtakeP (v := .int .i64 ((((rs.map RF.c).length : Nat) : Int))) 7 rfl (by kernel_rfl) (.inr ⟨hb, trivial⟩) (wantedT1 rfl rfl rfl rfl) (fun hg _ => (x_lenSl Try.underlying87 rfl)) ?_
      refine RT.gtakeP (v := .bool (decide (64 ≤ (((rs.map RF.c).length : Nat) : Int)))) 8 rfl (by kernel_rfl) (.inr ⟨hb, trivial⟩) (wantedT1 rfl rfl rfl rfl) (fun hg _ => (x_geI rfl rfl)) ?_
      refine RT.takeP (v := .bool (decide (64 ≤ (((rs.map RF.c).length : Nat) : Int)))) 9 rfl (by kernel_rfl) (.inr ⟨hb, trivial⟩) (fun _ => (x_andT rfl rfl rfl)) ?_
      refine RT.takeP (v := .bool (decide (64 ≤ (((rs.map RF.c).length : Nat) : Int)))) 10 rfl (by kernel_rfl) (.inr ⟨hb, trivial⟩) (fun _ => (x_moveB rfl)) ?_
      refine RT.gtakeP (v := .slice (a) (b.length) (c)) 11 rfl (by kernel_rfl) (.inr ⟨hb, trivial⟩) (wantedF rfl rfl rfl rfl) (fun hg _ => (x_moveSl rfl)) ?_
      refine RT.gtakeP (v := .int .i64 (((b.length : Nat) : Int))) 12 rfl (by kernel_rfl) (.inr ⟨hb, trivial⟩) (wantedF rfl rfl rfl rfl) (fun hg _ => (x_lenSl Try.underlying26 (gvr hg))) ?_
      refine RT.gtakeP (v := .pointer (some ⟨x, 0, none⟩)) 13 rfl (by kernel_rfl) (.inr ⟨hb, trivial⟩) (wantedF rfl rfl rfl rfl) (fun hg _ => (x_moveP rfl)) ?_
      refine RT.gtakeP (v := .pointer (some ⟨x, 0, none⟩)) 14 rfl (by kernel_rfl) (.inr ⟨hb, trivial⟩) (wantedF rfl rfl rfl rfl) (fun hg _ => (x_nilCheck (gvr hg))) ?_
      refine RT.gtakeP (v := .pointer (some ⟨x, 0, none⟩)) 15 rfl (by kernel_rfl) (.inr ⟨hb, trivial⟩) (wantedF rfl rfl rfl rfl) (fun hg _ => (x_fld (o' := 0) Try.underlying89 rfl ty3 rfl (gvr hg) rfl)) ?_
      refine RT.gtake (v := .int .i64 (room)) 16 rfl (by kernel_rfl) ⟨hb, trivial⟩ (wantedF rfl rfl rfl rfl) (fun hg => by rintro _ ⟨hb, -⟩; exact (x_ld (v := .int .i64 (room)) ty3 (gvr hg) rfl (hb.cl.field (i := 0) rfl))) ?_
      refine RT.gtakeP (v := .pointer (some ⟨x, 0, none⟩)) 17 rfl (by kernel_rfl) (.inr ⟨hb, trivial⟩) (wantedF rfl rfl rfl rfl) (fun hg _ => (x_moveP rfl)) ?_
      refine RT.gcall (vals := [.pointer (some ⟨x, 0, none⟩)]) 18 rfl (by kernel_rfl) (wantedF rfl rfl rfl rfl) en45 (fun hg => (mcons (gvr hg) mnil)) (fun hg => (usedR x al cl room rs _ (⟨hb, ho, hy, hox, hbx, hbo⟩ : RefM _ x al cl room rs) (by omega) (by omega))) ?_
      intro w_8 K_9
      replace hb := hb.ext K_9
      replace ho := ho.ext K_9
      replace hy := hy.ext K_9
      replace K0 := K0.ext K_9
      refine ⟨.inr ⟨hb, trivial⟩, ?_⟩
      refine RT.gtakeP (v := .int .i64 (room - ((usedL (rs.map RF.p) : Nat) : Int))) 19 rfl (by kernel_rfl) (.inr ⟨hb, trivial⟩) (wantedF rfl rfl rfl rfl) (fun hg _ => (x_sub (gvr hg) (gvr hg) (by omega) (by omega))) ?_
      refine RT.gtakeP (v := .bool (decide ((room - ((usedL (rs.map RF.p) : Nat) : Int)) < ((b.length : Nat) : Int)))) 20 rfl (by kernel_rfl) (.inr ⟨hb, trivial⟩) (wantedF rfl rfl rfl rfl) (fun hg _ => (x_gtI (gvr hg) (gvr hg))) ?_
      refine RT.takeP (v := .bool ((decide (64 ≤ (((rs.map RF.c).length : Nat) : Int))) || (decide ((room - ((usedL (rs.map RF.p) : Nat) : Int)) < ((b.length : Nat) : Int))))) 21 rfl (by kernel_rfl) (.inr ⟨hb, trivial⟩) (fun _ => (x_or rfl rfl rfl)) ?_
      refine RT.done (by kernel_rfl) ?_
      refine Run.cond rfl (fun hc36 => ?_) (fun hc36 => ?_)
      · try simp only [br] at hc36
        refine Run.seq ?_
        refine Run.region ?_
        refine RL.val (x_assignI rfl) ?_
        refine RL.nil ?_
        refine Run.ret1 (v := .int .i64 (7)) Try.func52 rfl rfl ?_
        have he7 : appE room (rs.map RF.p) name b = 7 := appE_full hmy (by first | exact .inr hc36 | (rcases hc36 with h | h; exact .inl ⟨hasR_no hrno, by rw [List.length_map]; omega⟩; exact .inr h))
        exact ⟨_, rfl, al, cl, rs, by rw [he7], ⟨⟨hb, ho, hy, hox, hbx, hbo⟩, hok, hso⟩, by rw [appL_no (by rw [he7]; decide)], fun _ h _ => h, K0⟩
      · try simp only [br] at hc36
        refine Run.skip ?_
        refine Run.seq ?_
        refine Run.seq ?_
        have he0 : appE room (rs.map RF.p) name b = 0 := appE_ok hmy (by rintro (⟨h1, h2⟩ | h1); rw [List.length_map] at h2; omega; omega)
        refine Run.region ?_
        refine RL.val (x_moveI rfl) ?_
        refine RL.val (litT (x_ltI rfl rfl) (by decide)) ?_
        refine RL.nil ?_
        refine Run.condT rfl ?_
        refine Run.seq ?_
        refine Run.region ?_
        refine RL.val (x_moveP rfl) ?_
        refine RL.val (x_moveS rfl) ?_
        refine RL.val (x_build (cells := #[.string (name), .slice (none) (0) (0), .int .i64 (0)]) (by kernel_rfl)) ?_
        refine RL.st rfl <| St1.call (vals := [.pointer (some ⟨x, 0, none⟩), .agg #[.string (name), .slice (none) (0) (0), .int .i64 (0)]]) en64 rfl (putR x al cl room rs (⟨name, none, 0, [], 0⟩ : RF) _ (⟨hb, ho, hy, hox, hbx, hbo⟩ : RefM _ x al cl room rs) (by omega) (BytesAt.none _ name 0) (bytesS_none name 0 _) (fun q_ h_ => absurd h_ (bytesS_none name 0 q_))) ?_
        rintro _ w_10 ⟨rfl, al_12, cl_13, ⟨hb_14, ho_15, hy_16, hox_17, hbx_18, hbo_19⟩, hnew_20, K_11⟩
        have pr_21 : ¬ own al_12 x := notNew hnew_20 hb.lt
        have pr_22 : ∀ q_, own al_12 q_ → ¬ own al q_ := apartNew hnew_20 ho.own_lt
        have pr_23 : ∀ q_, own al_12 q_ → ¬ bytesS rs q_ := apartNew hnew_20 hy.own_lt
        have pg_24 : ∀ q_, own al_12 q_ → q_ < w.heap.size → (refS x al rs) q_ := fun q_ h hlt => absurd (Nat.le_trans K0.size (hnew_20 q_ h)) (by omega)
        have pw_25 : ∀ q_, own al_12 q_ → w.heap.size ≤ q_ := fun q_ h => Nat.le_trans K0.size (hnew_20 q_ h)
        have pr_26 : ∀ q_, writeS x al q_ → ¬ bytesS rs q_ := fun q_ x_ z_ => ((fun q_ h_ => h_) _ x_).elim (fun e_ => hbx (show bytesS rs x from e_ ▸ z_)) (fun y_ => (fun y_ => (fun q_ h1 h2 => hbo q_ h2 h1) q_ y_ z_) y_)
        have pg_27 : ∀ q_, writeS x al q_ → q_ < w.heap.size → (refS x al rs) q_ := fun q_ x_ hl_ => ((fun q_ h_ => h_) _ x_).elim (fun e_ => e_ ▸ (Or.inl (Or.inl rfl))) (fun y_ => (fun y_ => (fun q_ h_ _ => Or.inl (Or.inr h_)) q_ y_ hl_) y_)
        replace K0 := K0.trans K_11 (fun x hlt hx => pg_27 x hx hlt)
        clear hb ho hy
        have hb := hb_14
        have hnd' := ins_nodup (r0 := (⟨name, none, 0, [], 0⟩ : RF)) hnd hrno
        have hl' : (insR (⟨name, none, 0, [], 0⟩ : RF) rs).length ≤ 65 := by rw [(insR_perm _ rs).length_eq]; simp; omega
        refine RL.nil ?_
        refine Run.region ?_
        refine RL.val (x_moveP rfl) ?_
        refine RL.val (x_moveS rfl) ?_
        refine RL.st rfl <| St1.call (vals := [.pointer (some ⟨x, 0, none⟩), .string (name)]) en63 rfl (findR x al_12 cl_13 room (insR (⟨name, none, 0, [], 0⟩ : RF) rs) name _ (⟨hb, ho_15, hy_16, hox_17, hbx_18, hbo_19⟩ : RefM _ x al_12 cl_13 room (insR (⟨name, none, 0, [], 0⟩ : RF) rs)) (by omega)) ?_
        rintro _ w_28 ⟨rfl, K_29⟩
        obtain ⟨ri, r, hr, hrn, hf_30⟩ := (rfind (insR (⟨name, none, 0, [], 0⟩ : RF) rs) name).resolve_left (fun h_ => by obtain ⟨z, hz, e⟩ := ins_has (r0 := (⟨name, none, 0, [], 0⟩ : RF)) (rs := rs); exact h_.1 z hz e)
        rw [hf_30]
        have hrl : ri < (insR (⟨name, none, 0, [], 0⟩ : RF) rs).length := (List.getElem?_eq_some_iff.1 hr).1
        replace hb := hb.ext K_29
        replace ho_15 := ho_15.ext K_29
        replace hy_16 := hy_16.ext K_29
        replace K0 := K0.ext K_29
        refine RL.val (x_assignI rfl) ?_
        refine RL.nil ?_
        refine Run.seq ?_
        have hml2 : ((insR (⟨name, none, 0, [], 0⟩ : RF) rs).map RF.c).length = (insR (⟨name, none, 0, [], 0⟩ : RF) rs).length := List.length_map ..
        have hul : usedL ((insR (⟨name, none, 0, [], 0⟩ : RF) rs).map RF.p) = usedL (rs.map RF.p) := by rw [usedL_perm ((insR_perm _ rs).map RF.p), List.map_append, used_append]; simp [usedL, RF.p]
        have hrbl : r.bytes.length ≤ 16777216 := by have := usedL_mem (pl := ((insR (⟨name, none, 0, [], 0⟩ : RF) rs)).map RF.p) (f := r.p) (List.mem_map.2 ⟨r, List.mem_of_getElem? hr, rfl⟩); have h2 : r.p.bytes = r.bytes := rfl; rw [h2] at this; omega
        have hy_ := hy_16
        refine Run.region ?_
        refine RL.val (x_moveP rfl) ?_
        refine RL.val (x_nilCheck rfl) ?_
        refine RL.val (x_fld (o' := 1) Try.underlying89 rfl ty87 rfl rfl rfl) ?_
        refine RL.val (x_ld (v := .slice (al_12) (((insR (⟨name, none, 0, [], 0⟩ : RF) rs).map RF.c).length) (cl_13)) ty87 rfl rfl (hb.cl.field (i := 1) rfl)) ?_
        refine RL.val (x_moveI rfl) ?_
        obtain ⟨b_31, o_32, y, hx, ha_33, hc_34⟩ := ho_15.sl.el (i := ri) (by first | omega | (simp only [List.length_set]; omega))
        refine RL.val (x_idxN Try.underlying87 ty93 rfl rfl ha_33 (by first | omega | (simp only [List.length_set]; omega))) ?_
        obtain ⟨r_, hr_, hxr⟩ := rf_get hx
        obtain rfl : r = r_ := Option.some.inj (hr.symm.trans hr_)
        have hrb := (hy_.all r (List.mem_of_getElem? hr))
        refine RL.val (x_fld (o' := o_32 + ri * 3 + 1) Try.underlying93 rfl ty26 rfl rfl rfl) ?_
        refine RL.val (litV (v' := .slice r.a r.bytes.length r.cap) (x_ld ty26 rfl rfl (hc_34.field (i := 1) rfl)) (by rw [hxr]; rfl)) ?_
        have ho_37 := OwnSl.nil (α := UInt8) w_28 5
        refine RL.st rfl <| St1.append (xs := ([] : List UInt8)) (ys := r.bytes) Try.underlying26 ty5 rfl rfl rfl ho_37 (hy_16.all r (List.mem_of_getElem? hr)).1 (by simp only [lr]; omega) (by decide) ?_
        intro a_38 c_39 w_40 ho_41 K_42 hm_43 hrm_44
        have pr_45 : ¬ own a_38 x := hm_43.not (own_none x) hb.lt
        have pr_46 : ∀ q_, own a_38 q_ → ¬ own al_12 q_ := hm_43.apart (fun q_ h1 _ => own_none q_ h1) ho_15.own_lt
        have pr_47 : ∀ q_, own a_38 q_ → ¬ bytesS (insR (⟨name, none, 0, [], 0⟩ : RF) rs) q_ := hm_43.apart (fun q_ h1 _ => own_none q_ h1) hy_16.own_lt
        have pg_48 : ∀ q_, own a_38 q_ → q_ < w.heap.size → (refS x al rs) q_ := hm_43.inS (fun q_ h1 _ => absurd h1 (own_none q_)) K0.size
        have pw_49 : ∀ q_, own a_38 q_ → w.heap.size ≤ q_ := hm_43.ge (fun q_ h1 => absurd h1 (own_none q_)) K0.size
        replace hb := hb.keep K_42 (own_none x)
        replace ho_15 := ho_15.keepO K_42 (fun q_ h1 h2 => (fun q_ h1 _ => own_none q_ h1) q_ h2 h1)
        replace hy_16 := hy_16.keepO K_42 (fun q_ h1 h2 => (fun q_ h1 _ => own_none q_ h1) q_ h2 h1)
        replace hc_34 := hc_34.keep K_42 (fun h => (fun q_ h1 h2 => (fun q_ h1 _ => own_none q_ h1) q_ h2 h1) _ ((own_sub _) _ ha_33) h)
        replace K0 := K0.trans K_42 (fun x hlt hx => (fun q_ h1 _ => absurd h1 (own_none q_)) x hx hlt)
        clear hm_43
        clear hrm_44
        refine RL.val (x_assignSl rfl) ?_
        refine RL.nil ?_
        rw [List.nil_append] at ho_41 ⊢
        refine Run.seq ?_
        refine Run.drawT [10] (m := 11) (by kernel_rfl) rfl ?_
        intro w_50 K_51
        replace hb := hb.ext K_51
        replace ho_15 := ho_15.ext K_51
        replace hy_16 := hy_16.ext K_51
        replace ho_41 := ho_41.ext K_51
        replace K0 := K0.ext K_51
        refine ⟨fun w' => Blk w' x [.int .i64 (room), .slice (al_12) (((insR (⟨name, none, 0, [], 0⟩ : RF) rs).map RF.c).length) (cl_13)] 89 ∧ True, ?_⟩
        refine RT.takeP (v := .pointer (some ⟨x, 0, none⟩)) 0 rfl (by kernel_rfl) (.inr ⟨hb, trivial⟩) (fun _ => (x_moveP rfl)) ?_
        refine RT.takeP (v := .pointer (some ⟨x, 0, none⟩)) 1 rfl (by kernel_rfl) (.inr ⟨hb, trivial⟩) (fun _ => (x_nilCheck rfl)) ?_
        refine RT.takeP (v := .pointer (some ⟨x, 1, none⟩)) 2 rfl (by kernel_rfl) (.inr ⟨hb, trivial⟩) (fun _ => (x_fld (o' := 1) Try.underlying89 rfl ty87 rfl rfl rfl)) ?_
        refine RT.take (v := .slice (al_12) (((insR (⟨name, none, 0, [], 0⟩ : RF) rs).map RF.c).length) (cl_13)) 3 rfl (by kernel_rfl) ⟨hb, trivial⟩ (by rintro _ ⟨hb, -⟩; exact (x_ld (v := .slice (al_12) (((insR (⟨name, none, 0, [], 0⟩ : RF) rs).map RF.c).length) (cl_13)) ty87 rfl rfl (hb.cl.field (i := 1) rfl))) ?_
        refine RT.takeP (v := .int .i64 (((ri : Nat) : Int))) 4 rfl (by kernel_rfl) (.inr ⟨hb, trivial⟩) (fun _ => (x_moveI rfl)) ?_
        refine RT.takeP (v := .slice (a_38) ((r.bytes).length) (c_39)) 5 rfl (by kernel_rfl) (.inr ⟨hb, trivial⟩) (fun _ => (x_moveSl rfl)) ?_
        refine RT.takeP (v := .slice (a) (b.length) (c)) 6 rfl (by kernel_rfl) (.inr ⟨hb, trivial⟩) (fun _ => (x_moveSl rfl)) ?_
        refine RT.st 7 rfl (by kernel_rfl) rfl <| St1.append (xs := r.bytes) (ys := b) Try.underlying26 ty5 rfl rfl rfl ho_41 (hsl.keepN K0 hdis) (by first | omega | (simp only [lr]; omega)) (by decide) ?_
        intro a_52 c_53 w_54 ho_55 K_56 hm_57 hrm_58
        have pr_59 : ¬ own a_52 x := hm_57.not pr_45 hb.lt
        have pr_60 : ∀ q_, own a_52 q_ → ¬ own al_12 q_ := hm_57.apart pr_46 ho_15.own_lt
        have pr_61 : ∀ q_, own a_52 q_ → ¬ bytesS (insR (⟨name, none, 0, [], 0⟩ : RF) rs) q_ := hm_57.apart pr_47 hy_16.own_lt
        have pg_62 : ∀ q_, own a_52 q_ → q_ < w.heap.size → (refS x al rs) q_ := hm_57.inS pg_48 K0.size
        have pw_63 : ∀ q_, own a_52 q_ → w.heap.size ≤ q_ := hm_57.ge pw_49 K0.size
        replace hb := hb.keep K_56 pr_45
        replace ho_15 := ho_15.keepO K_56 (fun q_ h1 h2 => pr_46 q_ h2 h1)
        replace hy_16 := hy_16.keepO K_56 (fun q_ h1 h2 => pr_47 q_ h2 h1)
        replace K0 := K0.trans K_56 (fun x hlt hx => pg_48 x hx hlt)
        clear hm_57
        clear hrm_58
        refine ⟨.inr ⟨hb, trivial⟩, ?_⟩
        obtain ⟨b_64, o_65, y2, hx2, ha_66, hc_67⟩ := ho_15.sl.el (i := ri) (by first | omega | (simp only [List.length_set]; omega))
        obtain rfl : y = y2 := Option.some.inj (hx.symm.trans hx2)
        refine RT.takeP (v := .pointer (some ⟨b_64, o_65 + ri * 3, none⟩)) 8 rfl (by kernel_rfl) (.inr ⟨hb, trivial⟩) (fun _ => (x_idxN Try.underlying87 ty93 rfl rfl ha_66 (by first | omega | (simp only [List.length_set]; omega)))) ?_
        refine RT.takeP (v := .pointer (some ⟨b_64, o_65 + ri * 3 + 1, none⟩)) 9 rfl (by kernel_rfl) (.inr ⟨hb, trivial⟩) (fun _ => (x_fld (o' := o_65 + ri * 3 + 1) Try.underlying93 rfl ty26 rfl rfl rfl)) ?_
        refine RT.st 10 rfl (by kernel_rfl) rfl <| St1.storeEl (v := .slice (a_52) ((r.bytes ++ b).length) (c_53)) (off := 1) (i := ri) (⟨y.name, ⟨a_52, (r.bytes ++ b).length, c_53⟩, y.synced⟩ : FileC) ty26 rfl rfl rfl (by simp [Value.cells, Value.oneCell']) ho_15 ha_66 hx2 rfl (by decide) rfl ?_
        intro w_70 ho_72 K_71
        clear hc_67
        replace hb := hb.keep K_71 hox_17
        replace hy_16 := hy_16.keepO K_71 hbo_19
        replace ho_55 := ho_55.keepO K_71 pr_60
        replace K0 := K0.trans K_71 (fun x hlt hx => pg_24 x hx hlt)
        replace ho_15 := ho_72
        clear ho_72
        rw [show ((insR (⟨name, none, 0, [], 0⟩ : RF) rs).map RF.c).length = (((insR (⟨name, none, 0, [], 0⟩ : RF) rs).map RF.c).set ri (⟨y.name, ⟨a_52, (r.bytes ++ b).length, c_53⟩, y.synced⟩ : FileC)).length from (List.length_set ..).symm] at hb
        refine ⟨.inl (by kernel_rfl), ?_⟩
        refine RT.done (by kernel_rfl) ?_
        refine Run.seq ?_
        refine Run.region ?_
        refine RL.val (x_assignI rfl) ?_
        refine RL.nil ?_
        refine Run.ret1 (v := .int .i64 (0)) Try.func52 rfl rfl ?_
        rw [set_rc (bs := r.bytes ++ b) hxr] at hb ho_15
        have hy2 := hy_16.set ho_55 ri r.name r.synced
        have hpm : (((insR (⟨name, none, 0, [], 0⟩ : RF) rs).set ri (⟨r.name, a_52, c_53, r.bytes ++ b, r.synced⟩ : RF)).map RF.p).Perm (appL room (rs.map RF.p) name b) := by exact appR_new he0 hrno hnd' hr hrn
        have hso2 : SortedL (((insR (⟨name, none, 0, [], 0⟩ : RF) rs).set ri (⟨r.name, a_52, c_53, r.bytes ++ b, r.synced⟩ : RF)).map RF.p) := by rw [upd_set (u := fun f => { f with bytes := f.bytes ++ b }) hnd' hr rfl hrn]; exact SortedL.upd (insR_sorted hso hrno) (fun _ => rfl)
        exact ⟨_, rfl, al_12, cl_13, _, by rw [he0], ⟨(⟨hb, ho_15, hy2, hox_17, (fun h_ => (bytesS_set _ h_).elim pr_59 hbx_18), (fun q_ h_ h2 => (bytesS_set q_ h_).elim (fun y_ => pr_60 q_ y_ h2) (fun y_ => hbo_19 q_ y_ h2))⟩ : RefM _ x al_12 cl_13 room ((insR (⟨name, none, 0, [], 0⟩ : RF) rs).set ri (⟨r.name, a_52, c_53, r.bytes ++ b, r.synced⟩ : RF))), hok.app.perm hpm.symm, hso2⟩, hpm, fun q_ h_ hl_ => h_.elim (fun h_ => h_.elim (fun e_ => Or.inl (Or.inl e_)) (fun h_ => pg_24 q_ h_ hl_)) (fun h_ => (bytesS_set q_ h_).elim (fun y_ => pg_62 q_ y_ hl_) (fun y_ => (bytesS_ins q_ y_).elim (fun z_ => absurd z_ (bytesS_none name 0 q_)) (fun z_ => Or.inr z_))), K0⟩
    · rw [hf_5]
      have hrl : ri < rs.length := (List.getElem?_eq_some_iff.1 hr).1
      replace hb := hb.ext K_4
      replace ho := ho.ext K_4
      replace hy := hy.ext K_4
      replace K0 := K0.ext K_4
      refine RL.val (x_assignI rfl) ?_
      refine RL.nil ?_
      refine Run.seq ?_
      refine Run.seq ?_
      refine Run.drawT [] (m := 22) (by kernel_rfl) rfl ?_
      intro w_73 K_74
      replace hb := hb.ext K_74
      replace ho := ho.ext K_74
      replace hy := hy.ext K_74
      replace K0 := K0.ext K_74
      refine ⟨fun w' => Blk w' x [.int .i64 (room), .slice (al) ((rs.map RF.c).length) (cl)] 89 ∧ True, ?_⟩
      refine RT.takeP (v := .int .i64 (((ri : Nat) : Int))) 0 rfl (by kernel_rfl) (.inr ⟨hb, trivial⟩) (fun _ => (x_moveI rfl)) ?_
      refine RT.takeP (v := .bool (false)) 1 rfl (by kernel_rfl) (.inr ⟨hb, trivial⟩) (fun _ => (litF (x_ltI rfl rfl) (decide_eq_false (by omega)))) ?_
      refine RT.takeP (v := .bool (false)) 2 rfl (by kernel_rfl) (.inr ⟨hb, trivial⟩) (fun _ => (x_moveB rfl)) ?_
      refine RT.gtakeP (v := undef) 3 rfl (by kernel_rfl) (.inr ⟨hb, trivial⟩) (wantedT0 rfl rfl rfl rfl) (fun hg => by cases hg) ?_
      refine RT.gtakeP (v := undef) 4 rfl (by kernel_rfl) (.inr ⟨hb, trivial⟩) (wantedT0 rfl rfl rfl rfl) (fun hg => by cases hg) ?_
      refine RT.gtakeP (v := undef) 5 rfl (by kernel_rfl) (.inr ⟨hb, trivial⟩) (wantedT0 rfl rfl rfl rfl) (fun hg => by cases hg) ?_
      refine RT.gtakeP (v := undef) 6 rfl (by kernel_rfl) (.inr ⟨hb, trivial⟩) (wantedT0 rfl rfl rfl rfl) (fun hg => by cases hg) ?_
      refine RT.gtakeP (v := undef) 7 rfl (by kernel_rfl) (.inr ⟨hb, trivial⟩) (wantedT0 rfl rfl rfl rfl) (fun hg => by cases hg) ?_
      refine RT.gtakeP (v := undef) 8 rfl (by kernel_rfl) (.inr ⟨hb, trivial⟩) (wantedT0 rfl rfl rfl rfl) (fun hg => by cases hg) ?_
      refine RT.takeP (v := .bool (false)) 9 rfl (by kernel_rfl) (.inr ⟨hb, trivial⟩) (fun _ => (x_and (b := false) (e := false) rfl rfl rfl)) ?_
      refine RT.takeP (v := .bool (false)) 10 rfl (by kernel_rfl) (.inr ⟨hb, trivial⟩) (fun _ => (x_moveB rfl)) ?_
      refine RT.gtakeP (v := .slice (a) (b.length) (c)) 11 rfl (by kernel_rfl) (.inr ⟨hb, trivial⟩) (wantedF1 rfl rfl rfl rfl) (fun hg _ => (x_moveSl rfl)) ?_
      refine RT.gtakeP (v := .int .i64 (((b.length : Nat) : Int))) 12 rfl (by kernel_rfl) (.inr ⟨hb, trivial⟩) (wantedF1 rfl rfl rfl rfl) (fun hg _ => (x_lenSl Try.underlying26 rfl)) ?_
      refine RT.gtakeP (v := .pointer (some ⟨x, 0, none⟩)) 13 rfl (by kernel_rfl) (.inr ⟨hb, trivial⟩) (wantedF1 rfl rfl rfl rfl) (fun hg _ => (x_moveP rfl)) ?_
      refine RT.gtakeP (v := .pointer (some ⟨x, 0, none⟩)) 14 rfl (by kernel_rfl) (.inr ⟨hb, trivial⟩) (wantedF1 rfl rfl rfl rfl) (fun hg _ => (x_nilCheck rfl)) ?_
      refine RT.gtakeP (v := .pointer (some ⟨x, 0, none⟩)) 15 rfl (by kernel_rfl) (.inr ⟨hb, trivial⟩) (wantedF1 rfl rfl rfl rfl) (fun hg _ => (x_fld (o' := 0) Try.underlying89 rfl ty3 rfl rfl rfl)) ?_
      refine RT.gtake (v := .int .i64 (room)) 16 rfl (by kernel_rfl) ⟨hb, trivial⟩ (wantedF1 rfl rfl rfl rfl) (fun hg => by rintro _ ⟨hb, -⟩; exact (x_ld (v := .int .i64 (room)) ty3 rfl rfl (hb.cl.field (i := 0) rfl))) ?_
      refine RT.gtakeP (v := .pointer (some ⟨x, 0, none⟩)) 17 rfl (by kernel_rfl) (.inr ⟨hb, trivial⟩) (wantedF1 rfl rfl rfl rfl) (fun hg _ => (x_moveP rfl)) ?_
      refine RT.gst 18 rfl (by kernel_rfl) (wantedF1 rfl rfl rfl rfl) <| St1.call (vals := [.pointer (some ⟨x, 0, none⟩)]) en45 rfl (usedR x al cl room rs _ (⟨hb, ho, hy, hox, hbx, hbo⟩ : RefM _ x al cl room rs) (by omega) (by omega)) ?_
      rintro _ w_75 ⟨rfl, K_76⟩
      replace hb := hb.ext K_76
      replace ho := ho.ext K_76
      replace hy := hy.ext K_76
      replace K0 := K0.ext K_76
      refine ⟨.inr ⟨hb, trivial⟩, ?_⟩
      refine RT.gtakeP (v := .int .i64 (room - ((usedL (rs.map RF.p) : Nat) : Int))) 19 rfl (by kernel_rfl) (.inr ⟨hb, trivial⟩) (wantedF1 rfl rfl rfl rfl) (fun hg _ => (x_sub rfl rfl (by omega) (by omega))) ?_
      refine RT.gtakeP (v := .bool (decide ((room - ((usedL (rs.map RF.p) : Nat) : Int)) < ((b.length : Nat) : Int)))) 20 rfl (by kernel_rfl) (.inr ⟨hb, trivial⟩) (wantedF1 rfl rfl rfl rfl) (fun hg _ => (x_gtI rfl rfl)) ?_
      refine RT.takeP (v := .bool (decide ((room - ((usedL (rs.map RF.p) : Nat) : Int)) < ((b.length : Nat) : Int)))) 21 rfl (by kernel_rfl) (.inr ⟨hb, trivial⟩) (fun _ => (x_orF rfl rfl rfl)) ?_
      refine RT.done (by kernel_rfl) ?_
      refine Run.cond rfl (fun hc36 => ?_) (fun hc36 => ?_)
      · try simp only [br] at hc36
        refine Run.seq ?_
        refine Run.region ?_
        refine RL.val (x_assignI rfl) ?_
        refine RL.nil ?_
        refine Run.ret1 (v := .int .i64 (7)) Try.func52 rfl rfl ?_
        have he7 : appE room (rs.map RF.p) name b = 7 := appE_full hmy (by first | exact .inr hc36 | (rcases hc36 with h | h; exact .inl ⟨hasR_no hrno, by rw [List.length_map]; omega⟩; exact .inr h))
        exact ⟨_, rfl, al, cl, rs, by rw [he7], ⟨⟨hb, ho, hy, hox, hbx, hbo⟩, hok, hso⟩, by rw [appL_no (by rw [he7]; decide)], fun _ h _ => h, K0⟩
      · try simp only [br] at hc36
        refine Run.skip ?_
        refine Run.seq ?_
        refine Run.seq ?_
        have he0 : appE room (rs.map RF.p) name b = 0 := appE_ok hmy (by rintro (⟨h1, h2⟩ | h1); rw [hasR_in hr hrn] at h1; cases h1; omega)
        refine Run.region ?_
        refine RL.val (x_moveI rfl) ?_
        refine RL.val (litF (x_ltI rfl rfl) (decide_eq_false (by omega))) ?_
        refine RL.nil ?_
        refine Run.condF rfl ?_
        refine Run.skip ?_
        refine Run.seq ?_
        have hml2 : (rs.map RF.c).length = rs.length := List.length_map ..
        have hrbl : r.bytes.length ≤ 16777216 := by have := usedL_mem (pl := (rs).map RF.p) (f := r.p) (List.mem_map.2 ⟨r, List.mem_of_getElem? hr, rfl⟩); have h2 : r.p.bytes = r.bytes := rfl; rw [h2] at this; omega
        have hy_ := hy
        refine Run.region ?_
        refine RL.val (x_moveP rfl) ?_
        refine RL.val (x_nilCheck rfl) ?_
        refine RL.val (x_fld (o' := 1) Try.underlying89 rfl ty87 rfl rfl rfl) ?_
        refine RL.val (x_ld (v := .slice (al) ((rs.map RF.c).length) (cl)) ty87 rfl rfl (hb.cl.field (i := 1) rfl)) ?_
        refine RL.val (x_moveI rfl) ?_
        obtain ⟨b_77, o_78, y, hx, ha_79, hc_80⟩ := ho.sl.el (i := ri) (by first | omega | (simp only [List.length_set]; omega))
        refine RL.val (x_idxN Try.underlying87 ty93 rfl rfl ha_79 (by first | omega | (simp only [List.length_set]; omega))) ?_
        obtain ⟨r_, hr_, hxr⟩ := rf_get hx
        obtain rfl : r = r_ := Option.some.inj (hr.symm.trans hr_)
        have hrb := (hy_.all r (List.mem_of_getElem? hr))
        refine RL.val (x_fld (o' := o_78 + ri * 3 + 1) Try.underlying93 rfl ty26 rfl rfl rfl) ?_
        refine RL.val (litV (v' := .slice r.a r.bytes.length r.cap) (x_ld ty26 rfl rfl (hc_80.field (i := 1) rfl)) (by rw [hxr]; rfl)) ?_
        have ho_83 := OwnSl.nil (α := UInt8) w_75 5
        refine RL.st rfl <| St1.append (xs := ([] : List UInt8)) (ys := r.bytes) Try.underlying26 ty5 rfl rfl rfl ho_83 (hy.all r (List.mem_of_getElem? hr)).1 (by simp only [lr]; omega) (by decide) ?_
        intro a_84 c_85 w_86 ho_87 K_88 hm_89 hrm_90
        have pr_91 : ¬ own a_84 x := hm_89.not (own_none x) hb.lt
        have pr_92 : ∀ q_, own a_84 q_ → ¬ own al q_ := hm_89.apart (fun q_ h1 _ => own_none q_ h1) ho.own_lt
        have pr_93 : ∀ q_, own a_84 q_ → ¬ bytesS rs q_ := hm_89.apart (fun q_ h1 _ => own_none q_ h1) hy.own_lt
        have pg_94 : ∀ q_, own a_84 q_ → q_ < w.heap.size → (refS x al rs) q_ := hm_89.inS (fun q_ h1 _ => absurd h1 (own_none q_)) K0.size
        have pw_95 : ∀ q_, own a_84 q_ → w.heap.size ≤ q_ := hm_89.ge (fun q_ h1 => absurd h1 (own_none q_)) K0.size
        replace hb := hb.keep K_88 (own_none x)
        replace ho := ho.keepO K_88 (fun q_ h1 h2 => (fun q_ h1 _ => own_none q_ h1) q_ h2 h1)
        replace hy := hy.keepO K_88 (fun q_ h1 h2 => (fun q_ h1 _ => own_none q_ h1) q_ h2 h1)
        replace hc_80 := hc_80.keep K_88 (fun h => (fun q_ h1 h2 => (fun q_ h1 _ => own_none q_ h1) q_ h2 h1) _ ((own_sub _) _ ha_79) h)
        replace K0 := K0.trans K_88 (fun x hlt hx => (fun q_ h1 _ => absurd h1 (own_none q_)) x hx hlt)
        clear hm_89
        clear hrm_90
        refine RL.val (x_assignSl rfl) ?_
        refine RL.nil ?_
        rw [List.nil_append] at ho_87 ⊢
        refine Run.seq ?_
        refine Run.drawT [10] (m := 11) (by kernel_rfl) rfl ?_
        intro w_96 K_97
        replace hb := hb.ext K_97
        replace ho := ho.ext K_97
        replace hy := hy.ext K_97
        replace ho_87 := ho_87.ext K_97
        replace K0 := K0.ext K_97
        refine ⟨fun w' => Blk w' x [.int .i64 (room), .slice (al) ((rs.map RF.c).length) (cl)] 89 ∧ True, ?_⟩
        refine RT.takeP (v := .pointer (some ⟨x, 0, none⟩)) 0 rfl (by kernel_rfl) (.inr ⟨hb, trivial⟩) (fun _ => (x_moveP rfl)) ?_
        refine RT.takeP (v := .pointer (some ⟨x, 0, none⟩)) 1 rfl (by kernel_rfl) (.inr ⟨hb, trivial⟩) (fun _ => (x_nilCheck rfl)) ?_
        refine RT.takeP (v := .pointer (some ⟨x, 1, none⟩)) 2 rfl (by kernel_rfl) (.inr ⟨hb, trivial⟩) (fun _ => (x_fld (o' := 1) Try.underlying89 rfl ty87 rfl rfl rfl)) ?_
        refine RT.take (v := .slice (al) ((rs.map RF.c).length) (cl)) 3 rfl (by kernel_rfl) ⟨hb, trivial⟩ (by rintro _ ⟨hb, -⟩; exact (x_ld (v := .slice (al) ((rs.map RF.c).length) (cl)) ty87 rfl rfl (hb.cl.field (i := 1) rfl))) ?_
        refine RT.takeP (v := .int .i64 (((ri : Nat) : Int))) 4 rfl (by kernel_rfl) (.inr ⟨hb, trivial⟩) (fun _ => (x_moveI rfl)) ?_
        refine RT.takeP (v := .slice (a_84) ((r.bytes).length) (c_85)) 5 rfl (by kernel_rfl) (.inr ⟨hb, trivial⟩) (fun _ => (x_moveSl rfl)) ?_
        refine RT.takeP (v := .slice (a) (b.length) (c)) 6 rfl (by kernel_rfl) (.inr ⟨hb, trivial⟩) (fun _ => (x_moveSl rfl)) ?_
        refine RT.st 7 rfl (by kernel_rfl) rfl <| St1.append (xs := r.bytes) (ys := b) Try.underlying26 ty5 rfl rfl rfl ho_87 (hsl.keepN K0 hdis) (by first | omega | (simp only [lr]; omega)) (by decide) ?_
        intro a_98 c_99 w_100 ho_101 K_102 hm_103 hrm_104
        have pr_105 : ¬ own a_98 x := hm_103.not pr_91 hb.lt
        have pr_106 : ∀ q_, own a_98 q_ → ¬ own al q_ := hm_103.apart pr_92 ho.own_lt
        have pr_107 : ∀ q_, own a_98 q_ → ¬ bytesS rs q_ := hm_103.apart pr_93 hy.own_lt
        have pg_108 : ∀ q_, own a_98 q_ → q_ < w.heap.size → (refS x al rs) q_ := hm_103.inS pg_94 K0.size
        have pw_109 : ∀ q_, own a_98 q_ → w.heap.size ≤ q_ := hm_103.ge pw_95 K0.size
        replace hb := hb.keep K_102 pr_91
        replace ho := ho.keepO K_102 (fun q_ h1 h2 => pr_92 q_ h2 h1)
        replace hy := hy.keepO K_102 (fun q_ h1 h2 => pr_93 q_ h2 h1)
        replace K0 := K0.trans K_102 (fun x hlt hx => pg_94 x hx hlt)
        clear hm_103
        clear hrm_104
        refine ⟨.inr ⟨hb, trivial⟩, ?_⟩
        obtain ⟨b_110, o_111, y2, hx2, ha_112, hc_113⟩ := ho.sl.el (i := ri) (by first | omega | (simp only [List.length_set]; omega))
        obtain rfl : y = y2 := Option.some.inj (hx.symm.trans hx2)
        refine RT.takeP (v := .pointer (some ⟨b_110, o_111 + ri * 3, none⟩)) 8 rfl (by kernel_rfl) (.inr ⟨hb, trivial⟩) (fun _ => (x_idxN Try.underlying87 ty93 rfl rfl ha_112 (by first | omega | (simp only [List.length_set]; omega)))) ?_
        refine RT.takeP (v := .pointer (some ⟨b_110, o_111 + ri * 3 + 1, none⟩)) 9 rfl (by kernel_rfl) (.inr ⟨hb, trivial⟩) (fun _ => (x_fld (o' := o_111 + ri * 3 + 1) Try.underlying93 rfl ty26 rfl rfl rfl)) ?_
        refine RT.st 10 rfl (by kernel_rfl) rfl <| St1.storeEl (v := .slice (a_98) ((r.bytes ++ b).length) (c_99)) (off := 1) (i := ri) (⟨y.name, ⟨a_98, (r.bytes ++ b).length, c_99⟩, y.synced⟩ : FileC) ty26 rfl rfl rfl (by simp [Value.cells, Value.oneCell']) ho ha_112 hx2 rfl (by decide) rfl ?_
        intro w_116 ho_118 K_117
        clear hc_113
        replace hb := hb.keep K_117 hox
        replace hy := hy.keepO K_117 hbo
        replace ho_101 := ho_101.keepO K_117 pr_106
        replace K0 := K0.trans K_117 (fun x hlt hx => (fun q_ h_ _ => Or.inl (Or.inr h_)) x hx hlt)
        replace ho := ho_118
        clear ho_118
        rw [show (rs.map RF.c).length = ((rs.map RF.c).set ri (⟨y.name, ⟨a_98, (r.bytes ++ b).length, c_99⟩, y.synced⟩ : FileC)).length from (List.length_set ..).symm] at hb
        refine ⟨.inl (by kernel_rfl), ?_⟩
        refine RT.done (by kernel_rfl) ?_
        refine Run.seq ?_
        refine Run.region ?_
        refine RL.val (x_assignI rfl) ?_
        refine RL.nil ?_
        refine Run.ret1 (v := .int .i64 (0)) Try.func52 rfl rfl ?_
        rw [set_rc (bs := r.bytes ++ b) hxr] at hb ho
        have hy2 := hy.set ho_101 ri r.name r.synced
        have hpm : ((rs.set ri (⟨r.name, a_98, c_99, r.bytes ++ b, r.synced⟩ : RF)).map RF.p).Perm (appL room (rs.map RF.p) name b) := by rw [appR_in he0 hnd hr hrn]
        have hso2 : SortedL ((rs.set ri (⟨r.name, a_98, c_99, r.bytes ++ b, r.synced⟩ : RF)).map RF.p) := by rw [upd_set (u := fun f => { f with bytes := f.bytes ++ b }) hnd hr rfl hrn]; exact SortedL.upd hso (fun _ => rfl)
        exact ⟨_, rfl, al, cl, _, by rw [he0], ⟨(⟨hb, ho, hy2, hox, (fun h_ => (bytesS_set _ h_).elim pr_105 hbx), (fun q_ h_ h2 => (bytesS_set q_ h_).elim (fun y_ => pr_106 q_ y_ h2) (fun y_ => hbo q_ y_ h2))⟩ : RefM _ x al cl room (rs.set ri (⟨r.name, a_98, c_99, r.bytes ++ b, r.synced⟩ : RF))), hok.app.perm hpm.symm, hso2⟩, hpm, fun q_ h_ hl_ => h_.elim (fun h_ => h_.elim (fun e_ => Or.inl (Or.inl e_)) (fun h_ => (fun q_ h_ _ => Or.inl (Or.inr h_)) q_ h_ hl_)) (fun h_ => (bytesS_set q_ h_).elim (fun y_ => pg_108 q_ y_ hl_) (fun y_ => Or.inr y_)), K0⟩

end Go.Proofs.Ytambibdkanpmaaa
