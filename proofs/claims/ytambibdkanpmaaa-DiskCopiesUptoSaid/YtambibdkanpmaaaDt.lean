/-
  The reference's disk, seventh part.
-/
import Derived.Test.YtambibdkanpmaaaRows
import Derived.Test.YtambibdkanpmaaaDs
namespace Go.Proofs.Ytambibdkanpmaaa
attribute [local irreducible] St1 RL RA RT RT1 Run



set_option maxRecDepth 100000 in
set_option maxHeartbeats 4000000 in
theorem crashR (x : Nat) (al : Option Addr) (cl : Nat) (room : Int) (rs : List RF) (a : Option Addr) (ts : List TearC) (c : Nat) (pts : List PTear) (w : World) (hD : RefO w x al cl room rs) (hs : SlOf w a ts) (ht : TearsAt w ts pts) (hdis : ∀ q, a = some q → ts ≠ [] → ¬ refS x al rs q.block) (hdj : ∀ (i : Nat) (t : TearC) (p : PTear), ts[i]? = some t → pts[i]? = some p → ∀ q : Addr, t.junk.a = some q → p.junk ≠ [] → ¬ refS x al rs q.block) (hlt : ts.length ≤ 4294967295) :
    Calls Try.prog 56 #[.pointer (some ⟨x, 0, none⟩), .slice (a) (ts.length) (c)] w (Ret (fun v w' => ∃ al' cl' rs', v = .int .i64 (tornE (rs.map RF.p) pts []) ∧ RefO w' x al' cl' room rs' ∧ (rs'.map RF.p).Perm (crashL (rs.map RF.p) pts) ∧ (∀ q, refS x al' rs' q → q < w.heap.size → refS x al rs q) ∧ Keeps (refS x al rs) w w')) := by
  obtain ⟨⟨hb, ho, hy, hox, hbx, hbo⟩, hok, hso⟩ := hD
  have hml : (rs.map RF.c).length = rs.length := List.length_map ..
  have hnd := RefO.names hok
  have hl : rs.length ≤ 64 := by have := hok.len; rwa [List.length_map] at this
  have hroom := hok.room
  have hused := hok.used
  refine calls_run (n := 157) Try.func56 rfl rfl rfl ?_
  refine Run.seq ?_
  refine Run.region ?_
  refine RL.val (x_assignI rfl) ?_
  refine RL.nil ?_
  refine Run.seq ?_
  refine Run.seq ?_
  refine Run.region ?_
  refine RL.val (x_assignI rfl) ?_
  refine RL.nil ?_
  refine Run.block ?_
  refine Run.loop (ι := Nat) (fun i ρ' w' => Holds ρ' [(0, .pointer (some ⟨x, 0, none⟩)), (1, .slice (a) (ts.length) (c)), (5, .int .i64 (((i : Nat) : Int)))] ∧ Keeps (refS x al rs) w w' ∧ (Blk w' x [.int .i64 (room), .slice (al) ((rs.map RF.c).length) (cl)] 89) ∧ (OwnSl w' 93 (al) (cl) (rs.map RF.c)) ∧ (BytesAt w' rs) ∧ (i ≤ ts.length) ∧ (tornE (rs.map RF.p) pts [] = tornE (rs.map RF.p) (pts.drop i) (seenL pts i))) (fun i => ts.length - i) 0 ?_ ?_
  · refine ⟨⟨rfl, rfl, rfl, trivial⟩, (Keeps.refl _ w), hb, ho, hy, ?_, ?_⟩
    · omega
    · rfl
  clear hb ho hy
  rintro i ρ_3 w_1 ⟨hH_2, K0, hb, ho, hy, hi, hte⟩ ih1
  obtain ⟨ρ₀, rfl⟩ := hH_2.ex
  clear hH_2
  refine Run.seq ?_
  refine Run.seq ?_
  refine Run.region ?_
  refine RL.val (x_moveI rfl) ?_
  refine RL.val (x_moveSl rfl) ?_
  refine RL.val (x_lenSl Try.underlying32 rfl) ?_
  refine RL.val (x_ltI rfl rfl) ?_
  refine RL.nil ?_
  refine Run.cond rfl (fun hc19 => ?_) (fun hc19 => ?_)
  · try simp only [br] at hc19
    refine Run.skip ?_
    refine Run.seq ?_
    refine Run.block ?_
    refine Run.seq ?_
    refine Run.region ?_
    refine RL.val (x_moveSl rfl) ?_
    refine RL.val (x_moveI rfl) ?_
    obtain ⟨b_4, o_5, t, hx, ha_6, hc_7⟩ := hs.el (i := i) (by first | omega | (simp only [List.length_set]; omega))
    have hc_7_lt := hc_7.lt
    replace hc_7 := hc_7.keep K0 (hdis _ ha_6 (ne_get hx))
    refine RL.val (x_idxN Try.underlying32 ty70 rfl rfl ha_6 (by first | omega | (simp only [List.length_set]; omega))) ?_
    refine RL.val (x_ldV (v := .agg #[.string ((t).name), .int .i64 ((t).keep), .slice ((t).junk.a) ((t).junk.len) ((t).junk.cap)]) (y := t) ty70 rfl hc_7 rfl) ?_
    refine RL.st rfl <| St1.alloc ty70 ?_
    intro b_10 w_11 hl_14 hb_13 K_12
    replace hb_13 : Blk w_11 b_10 [.string (⟨#[]⟩), .int .i64 (0), .slice (none) (0) (0)] 70 := hb_13
    have ne_15 : x < b_10 := Nat.lt_of_lt_of_le hb.lt hl_14
    have ne_16 : b_4 < b_10 := Nat.lt_of_lt_of_le hc_7.lt hl_14
    have pr_17 : ¬ own al b_10 := fun h => absurd (ho.own_lt _ h) (by omega)
    have pr_18 : ¬ bytesS rs b_10 := fun h => absurd (hy.own_lt _ h) (by omega)
    have : w.heap.size ≤ b_10 := Nat.le_trans K0.size hl_14
    clear hl_14
    replace hb := hb.ext K_12
    replace ho := ho.ext K_12
    replace hy := hy.ext K_12
    replace hc_7 := hc_7.ext K_12
    replace K0 := K0.ext K_12
    refine RL.st rfl <| St1.store (v := .agg #[.string ((t).name), .int .i64 ((t).keep), .slice ((t).junk.a) ((t).junk.len) ((t).junk.cap)]) ty70 rfl rfl rfl (by simp [Value.cells, Value.oneCell']) hb_13 (by simp) ?_
    intro w_19 hb_13_ K_20
    have hb_13' : Blk w_19 b_10 [.string ((t).name), .int .i64 ((t).keep), .slice ((t).junk.a) ((t).junk.len) ((t).junk.cap)] 70 := hb_13_
    clear hb_13_
    replace hb := hb.keep K_20 (by simp only [one]; omega)
    replace ho := ho.keepO K_20 (fun q_ hq_ eq_ => pr_17 (by simp only [one] at eq_; rw [← eq_]; exact hq_))
    replace hy := hy.keepO K_20 (fun q_ hq_ eq_ => pr_18 (by simp only [one] at eq_; rw [← eq_]; exact hq_))
    replace hc_7 := hc_7.keep K_20 (by simp only [one]; omega)
    replace K0 := K0.trans K_20 (fun x hlt hx => absurd hlt (by simp only [one] at hx; omega))
    replace hb_13 := hb_13'
    clear hb_13'
    refine RL.nil ?_
    obtain ⟨p, hp⟩ : ∃ p_, pts[i]? = some p_ := ⟨_, List.getElem?_eq_getElem (by rw [← ht.len]; omega)⟩
    obtain ⟨htn, htk, htl, htj⟩ := ht.all i t p hx hp
    obtain ⟨hz1, hz2, hz3, hz4⟩ := ht.size p (List.mem_of_getElem? hp)
    have hns : t.name.size ≤ 4294967295 := by rw [htn]; exact hz1
    refine Run.seq ?_
    refine Run.region ?_
    refine RL.val (x_moveP rfl) ?_
    refine RL.val (x_fld (o' := 0) Try.underlying70 rfl ty9 rfl rfl rfl) ?_
    refine RL.val (x_ld (v := .string ((t).name)) ty9 rfl rfl (hb_13.cl.field (i := 0) rfl)) ?_
    refine RL.st rfl <| St1.call (vals := [.pointer (some ⟨x, 0, none⟩), .string ((t).name)]) en65 rfl (lookR x al cl room rs ((t).name) _ (⟨hb, ho, hy, hox, hbx, hbo⟩ : RefM _ x al cl room rs) (by omega) (by omega)) ?_
    rintro _ w_21 ⟨K_22, (⟨hmay, rfl⟩ | ⟨hmay, hrno, rfl⟩ | ⟨hmay, ri, r, hr, hrn, rfl⟩)⟩
    · replace hb := hb.ext K_22
      replace ho := ho.ext K_22
      replace hy := hy.ext K_22
      replace hb_13 := hb_13.ext K_22
      replace K0 := K0.ext K_22
      refine RL.val (x_moveT rfl) ?_
      refine RL.val (x_extract rfl rfl) ?_
      refine RL.val (x_extract rfl rfl) ?_
      refine RL.val (x_assignI rfl) ?_
      refine RL.val (x_assignI rfl) ?_
      refine RL.nil ?_
      refine Run.seq ?_
      refine Run.seq ?_
      refine Run.region ?_
      refine RL.val (x_moveI rfl) ?_
      refine RL.val (litT (x_neI rfl rfl) (by decide)) ?_
      refine RL.nil ?_
      refine Run.condT rfl ?_
      refine Run.seq ?_
      refine Run.region ?_
      refine RL.val (x_moveI rfl) ?_
      refine RL.val (x_assignI rfl) ?_
      refine RL.nil ?_
      refine Run.ret1 (v := .int .i64 (6)) Try.func56 rfl rfl ?_
      have he := te_bad hte hp (by rw [← htn]; exact hmay)
      exact ⟨_, rfl, al, cl, rs, by rw [he], ⟨⟨hb, ho, hy, hox, hbx, hbo⟩, hok, hso⟩, by rw [crashL_no (by rw [he]; decide)], fun _ h _ => h, K0⟩
    · replace hb := hb.ext K_22
      replace ho := ho.ext K_22
      replace hy := hy.ext K_22
      replace hb_13 := hb_13.ext K_22
      replace K0 := K0.ext K_22
      refine RL.val (x_moveT rfl) ?_
      refine RL.val (x_extract rfl rfl) ?_
      refine RL.val (x_extract rfl rfl) ?_
      refine RL.val (x_assignI rfl) ?_
      refine RL.val (x_assignI rfl) ?_
      refine RL.nil ?_
      refine Run.seq ?_
      refine Run.seq ?_
      refine Run.region ?_
      refine RL.val (x_moveI rfl) ?_
      refine RL.val (litT (x_neI rfl rfl) (by decide)) ?_
      refine RL.nil ?_
      refine Run.condT rfl ?_
      refine Run.seq ?_
      refine Run.region ?_
      refine RL.val (x_moveI rfl) ?_
      refine RL.val (x_assignI rfl) ?_
      refine RL.nil ?_
      refine Run.ret1 (v := .int .i64 (20)) Try.func56 rfl rfl ?_
      have he := te_no hte hp (by rw [← htn]; exact hmay) (by rw [← htn]; exact lookL_none (noRP hrno))
      exact ⟨_, rfl, al, cl, rs, by rw [he], ⟨⟨hb, ho, hy, hox, hbx, hbo⟩, hok, hso⟩, by rw [crashL_no (by rw [he]; decide)], fun _ h _ => h, K0⟩
    · replace hb := hb.ext K_22
      replace ho := ho.ext K_22
      replace hy := hy.ext K_22
      replace hb_13 := hb_13.ext K_22
      replace K0 := K0.ext K_22
      have hrl : ri < rs.length := (List.getElem?_eq_some_iff.1 hr).1
      refine RL.val (x_moveT rfl) ?_
      refine RL.val (x_extract rfl rfl) ?_
      refine RL.val (x_extract rfl rfl) ?_
      refine RL.val (x_assignI rfl) ?_
      refine RL.val (x_assignI rfl) ?_
      refine RL.nil ?_
      refine Run.seq ?_
      refine Run.seq ?_
      refine Run.region ?_
      refine RL.val (x_moveI rfl) ?_
      refine RL.val (litF (x_neI rfl rfl) (by decide)) ?_
      refine RL.nil ?_
      refine Run.condF rfl ?_
      refine Run.skip ?_
      refine Run.seq ?_
      refine Run.seq ?_
      refine Run.region ?_
      refine RL.val (x_assignI rfl) ?_
      refine RL.nil ?_
      refine Run.block ?_
      refine Run.loop (ι := Nat) (fun j ρ' w' => Holds ρ' [(0, .pointer (some ⟨x, 0, none⟩)), (1, .slice (a) (ts.length) (c)), (5, .int .i64 (((i : Nat) : Int))), (6, .pointer (some ⟨b_10, 0, none⟩)), (7, .int .i64 (((ri : Nat) : Int))), (9, .int .i64 (((j : Nat) : Int))), (16, .int .i64 (((i : Nat) : Int))), (17, .slice (a) (ts.length) (c)), (18, .int .i64 (((ts.length : Nat) : Int))), (19, .bool (decide (((i : Nat) : Int) < ((ts.length : Nat) : Int))))] ∧ Keeps (refS x al rs) w w' ∧ (Blk w' x [.int .i64 (room), .slice (al) ((rs.map RF.c).length) (cl)] 89) ∧ (Blk w' b_10 [.string ((t).name), .int .i64 ((t).keep), .slice ((t).junk.a) ((t).junk.len) ((t).junk.cap)] 70) ∧ (OwnSl w' 93 (al) (cl) (rs.map RF.c)) ∧ (BytesAt w' rs) ∧ (j ≤ i) ∧ (∀ j' u, j' < j → pts[j']? = some u → u.name ≠ p.name)) (fun j => i - j) 0 ?_ ?_
      · refine ⟨⟨rfl, rfl, rfl, rfl, rfl, rfl, rfl, rfl, rfl, rfl, trivial⟩, K0, hb, hb_13, ho, hy, ?_, ?_⟩
        · omega
        · exact fun j' u h _ => absurd h (by omega)
      clear hb ho hy hb_13
      clear K0
      rintro j ρ_25 w_23 ⟨hH_24, K0, hb, hb_13, ho, hy, hj, hno⟩ ih2
      obtain ⟨ρ₀, rfl⟩ := hH_24.ex
      clear hH_24
      refine Run.seq ?_
      refine Run.seq ?_
      refine Run.region ?_
      refine RL.val (x_moveI rfl) ?_
      refine RL.val (x_moveI rfl) ?_
      refine RL.val (x_ltI rfl rfl) ?_
      refine RL.nil ?_
      refine Run.cond rfl (fun hc38 => ?_) (fun hc38 => ?_)
      · try simp only [br] at hc38
        refine Run.skip ?_
        refine Run.seq ?_
        refine Run.block ?_
        refine Run.seq ?_
        obtain ⟨b_28, o_29, u, hu, ha_30, hc_31⟩ := hs.el (i := j) (by first | omega | (simp only [List.length_set]; omega))
        have hc_31_lt := hc_31.lt
        replace hc_31 := hc_31.keep K0 (hdis _ ha_30 (ne_get hu))
        refine Run.draw' (m := 8) (by kernel_rfl) rfl ?_
        intro w_26 K_27
        replace hb := hb.ext K_27
        replace hb_13 := hb_13.ext K_27
        replace ho := ho.ext K_27
        replace hy := hy.ext K_27
        replace hc_31 := hc_31.ext K_27
        replace K0 := K0.ext K_27
        refine RA.take (v := .slice (a) (ts.length) (c)) 0 rfl (by kernel_rfl) rfl (by rintro _ rfl; exact (x_moveSl rfl)) ?_
        refine RA.take (v := .int .i64 (((j : Nat) : Int))) 1 rfl (by kernel_rfl) rfl (by rintro _ rfl; exact (x_moveI rfl)) ?_
        refine RA.take (v := .pointer (some ⟨b_28, o_29 + j * 3, none⟩)) 2 rfl (by kernel_rfl) rfl (by rintro _ rfl; exact (x_idxN Try.underlying32 ty70 rfl rfl ha_30 (by first | omega | (simp only [List.length_set]; omega)))) ?_
        refine RA.take (v := .pointer (some ⟨b_28, o_29 + j * 3 + 0, none⟩)) 3 rfl (by kernel_rfl) rfl (by rintro _ rfl; exact (x_fld (o' := o_29 + j * 3 + 0) Try.underlying70 rfl ty9 rfl rfl rfl)) ?_
        refine RA.take (v := .string ((u).name)) 4 rfl (by kernel_rfl) rfl (by rintro _ rfl; exact (x_ld ty9 rfl rfl (hc_31.field (i := 0) rfl))) ?_
        refine RA.take (v := .pointer (some ⟨b_10, 0, none⟩)) 5 rfl (by kernel_rfl) rfl (by rintro _ rfl; exact (x_fld (o' := 0) Try.underlying70 rfl ty9 rfl rfl rfl)) ?_
        refine RA.take (v := .string ((t).name)) 6 rfl (by kernel_rfl) rfl (by rintro _ rfl; exact (x_ld (v := .string ((t).name)) ty9 rfl rfl (hb_13.cl.field (i := 0) rfl))) ?_
        refine RA.take (v := .bool (decide ((u).name = (t).name))) 7 rfl (by kernel_rfl) rfl (by rintro _ rfl; exact (x_eqS rfl rfl)) ?_
        refine RA.done (by kernel_rfl) ?_
        obtain ⟨q, hq⟩ : ∃ q_, pts[j]? = some q_ := ⟨_, List.getElem?_eq_getElem (by rw [← ht.len]; omega)⟩
        have hqn := (ht.all j u q hu hq).1
        refine Run.cond rfl (fun hc48 => ?_) (fun hc48 => ?_)
        · try simp only [br] at hc48
          refine Run.seq ?_
          refine Run.region ?_
          refine RL.val (x_assignI rfl) ?_
          refine RL.nil ?_
          refine Run.ret1 (v := .int .i64 (21)) Try.func56 rfl rfl ?_
          have he := te_tear hte hp (by rw [← htn]; exact hmay) (by rw [← htn]; exact lookR_in hok hr hrn) (.inl ⟨j, q, by omega, hq, by rw [← hqn, ← htn]; exact hc48⟩)
          exact ⟨_, rfl, al, cl, rs, by rw [he], ⟨⟨hb, ho, hy, hox, hbx, hbo⟩, hok, hso⟩, by rw [crashL_no (by rw [he]; decide)], fun _ h _ => h, K0⟩
        · try simp only [br] at hc48
          refine Run.skip ?_
          refine Run.inBlock ?_
          refine Run.region ?_
          refine RL.val (x_moveI rfl) ?_
          refine RL.val (litI (c := ((j + 1 : Nat) : Int)) (x_add rfl rfl (by omega) (by omega)) rfl) ?_
          refine RL.val (x_assignI rfl) ?_
          refine RL.nil ?_
          refine ih2 (j + 1) _ _ ?_ (by omega)
          refine ⟨⟨rfl, rfl, rfl, rfl, rfl, rfl, rfl, rfl, rfl, rfl, trivial⟩, K0, hb, hb_13, ho, hy, ?_, ?_⟩
          · omega
          · intro j' z h1 h2
            by_cases e_ : j' = j
            · subst e_; rw [hq] at h2; cases h2; rw [← hqn, ← htn]; exact hc48
            · exact hno j' z (by omega) h2
      · try simp only [br] at hc38
        refine Run.exit rfl ?_
        refine Run.seq ?_
        obtain ⟨b_34, o_35, y, hxy, ha_36, hc_37⟩ := ho.sl.el (i := ri) (by omega)
        have hy_ := hy
        obtain ⟨r_, hr_, hxr⟩ := rf_get hxy
        obtain rfl : r = r_ := Option.some.inj (hr.symm.trans hr_)
        have hrb := (hy_.all r (List.mem_of_getElem? hr))
        have hrbl : r.bytes.length ≤ 16777216 := by have := usedL_mem (pl := rs.map RF.p) (f := r.p) (List.mem_map.2 ⟨r, List.mem_of_getElem? hr, rfl⟩); have h2 : r.p.bytes = r.bytes := rfl; rw [h2] at this; omega
        have hrsy : r.synced ≤ r.bytes.length := hok.sync r.p (List.mem_map.2 ⟨r, List.mem_of_getElem? hr, rfl⟩)
        refine Run.draw' (m := 19) (by kernel_rfl) rfl ?_
        intro w_40 K_41
        replace hb := hb.ext K_41
        replace hb_13 := hb_13.ext K_41
        replace ho := ho.ext K_41
        replace hy := hy.ext K_41
        replace hc_37 := hc_37.ext K_41
        replace K0 := K0.ext K_41
        refine RA.take (v := .pointer (some ⟨x, 0, none⟩)) 0 rfl (by kernel_rfl) rfl (by rintro _ rfl; exact (x_moveP rfl)) ?_
        refine RA.take (v := .pointer (some ⟨x, 0, none⟩)) 1 rfl (by kernel_rfl) rfl (by rintro _ rfl; exact (x_nilCheck rfl)) ?_
        refine RA.take (v := .pointer (some ⟨x, 1, none⟩)) 2 rfl (by kernel_rfl) rfl (by rintro _ rfl; exact (x_fld (o' := 1) Try.underlying89 rfl ty87 rfl rfl rfl)) ?_
        refine RA.take (v := .slice (al) ((rs.map RF.c).length) (cl)) 3 rfl (by kernel_rfl) rfl (by rintro _ rfl; exact (x_ld (v := .slice (al) ((rs.map RF.c).length) (cl)) ty87 rfl rfl (hb.cl.field (i := 1) rfl))) ?_
        refine RA.take (v := .int .i64 (((ri : Nat) : Int))) 4 rfl (by kernel_rfl) rfl (by rintro _ rfl; exact (x_moveI rfl)) ?_
        refine RA.take (v := .pointer (some ⟨b_34, o_35 + ri * 3, none⟩)) 5 rfl (by kernel_rfl) rfl (by rintro _ rfl; exact (x_idxN Try.underlying87 ty93 rfl rfl ha_36 (by first | omega | (simp only [List.length_set]; omega)))) ?_
        refine RA.take (v := .pointer (some ⟨b_34, o_35 + ri * 3 + 1, none⟩)) 6 rfl (by kernel_rfl) rfl (by rintro _ rfl; exact (x_fld (o' := o_35 + ri * 3 + 1) Try.underlying93 rfl ty26 rfl rfl rfl)) ?_
        refine RA.take (v := .slice (r.a) (r.bytes.length) (r.cap)) 7 rfl (by kernel_rfl) rfl (by rintro _ rfl; exact (litV (v' := .slice r.a r.bytes.length r.cap) (x_ld ty26 rfl rfl (hc_37.field (i := 1) rfl)) (by rw [hxr]; rfl))) ?_
        refine RA.take (v := .int .i64 (((r.bytes.length : Nat) : Int))) 8 rfl (by kernel_rfl) rfl (by rintro _ rfl; exact (x_lenSl Try.underlying26 rfl)) ?_
        refine RA.take (v := .pointer (some ⟨x, 0, none⟩)) 9 rfl (by kernel_rfl) rfl (by rintro _ rfl; exact (x_moveP rfl)) ?_
        refine RA.take (v := .pointer (some ⟨x, 0, none⟩)) 10 rfl (by kernel_rfl) rfl (by rintro _ rfl; exact (x_nilCheck rfl)) ?_
        refine RA.take (v := .pointer (some ⟨x, 1, none⟩)) 11 rfl (by kernel_rfl) rfl (by rintro _ rfl; exact (x_fld (o' := 1) Try.underlying89 rfl ty87 rfl rfl rfl)) ?_
        refine RA.take (v := .slice (al) ((rs.map RF.c).length) (cl)) 12 rfl (by kernel_rfl) rfl (by rintro _ rfl; exact (x_ld (v := .slice (al) ((rs.map RF.c).length) (cl)) ty87 rfl rfl (hb.cl.field (i := 1) rfl))) ?_
        refine RA.take (v := .int .i64 (((ri : Nat) : Int))) 13 rfl (by kernel_rfl) rfl (by rintro _ rfl; exact (x_moveI rfl)) ?_
        refine RA.take (v := .pointer (some ⟨b_34, o_35 + ri * 3, none⟩)) 14 rfl (by kernel_rfl) rfl (by rintro _ rfl; exact (x_idxN Try.underlying87 ty93 rfl rfl ha_36 (by first | omega | (simp only [List.length_set]; omega)))) ?_
        refine RA.take (v := .pointer (some ⟨b_34, o_35 + ri * 3 + 2, none⟩)) 15 rfl (by kernel_rfl) rfl (by rintro _ rfl; exact (x_fld (o' := o_35 + ri * 3 + 2) Try.underlying93 rfl ty3 rfl rfl rfl)) ?_
        refine RA.take (v := .int .i64 (((r.synced : Nat) : Int))) 16 rfl (by kernel_rfl) rfl (by rintro _ rfl; exact (litI (c := ((r.synced : Nat) : Int)) (x_ld ty3 rfl rfl (hc_37.field (i := 2) rfl)) (by rw [hxr]; rfl))) ?_
        refine RA.take (v := .int .i64 (((r.bytes.length : Nat) : Int) - ((r.synced : Nat) : Int))) 17 rfl (by kernel_rfl) rfl (by rintro _ rfl; exact (x_sub rfl rfl (by omega) (by omega))) ?_
        refine RA.take (v := .int .i64 (((r.bytes.length : Nat) : Int) - ((r.synced : Nat) : Int))) 18 rfl (by kernel_rfl) rfl (by rintro _ rfl; exact (x_assignI rfl)) ?_
        refine RA.done (by kernel_rfl) ?_
        refine Run.seq ?_
        refine Run.region ?_
        refine RL.val (x_fld (o' := 1) Try.underlying70 rfl ty3 rfl rfl rfl) ?_
        refine RL.val (x_ld (v := .int .i64 ((t).keep)) ty3 rfl rfl (hb_13.cl.field (i := 1) rfl)) ?_
        refine RL.val (x_ltI rfl rfl) ?_
        refine RL.val (x_moveB rfl) ?_
        refine RL.gval (wantedF rfl rfl rfl rfl) (fun hg => (x_fld (o' := 1) Try.underlying70 rfl ty3 rfl rfl rfl)) ?_
        refine RL.gval (wantedF rfl rfl rfl rfl) (fun hg => (x_ld (v := .int .i64 ((t).keep)) ty3 (gvr hg) rfl (hb_13.cl.field (i := 1) rfl))) ?_
        refine RL.gval (wantedF rfl rfl rfl rfl) (fun hg => (x_moveI rfl)) ?_
        refine RL.gval (wantedF rfl rfl rfl rfl) (fun hg => (x_gtI (gvr hg) (gvr hg))) ?_
        refine RL.val (x_or rfl rfl rfl) ?_
        refine RL.val (x_moveB rfl) ?_
        refine RL.gval (wantedF rfl rfl rfl rfl) (fun hg => (x_fld (o' := 2) Try.underlying70 rfl ty26 rfl rfl rfl)) ?_
        refine RL.gval (wantedF rfl rfl rfl rfl) (fun hg => (x_ld (v := .slice ((t).junk.a) ((t).junk.len) ((t).junk.cap)) ty26 (gvr hg) rfl (hb_13.cl.field (i := 2) rfl))) ?_
        refine RL.gval (wantedF rfl rfl rfl rfl) (fun hg => (x_lenSl Try.underlying26 (gvr hg))) ?_
        refine RL.gval (wantedF rfl rfl rfl rfl) (fun hg => (x_moveI rfl)) ?_
        refine RL.gval (wantedF rfl rfl rfl rfl) (fun hg => (x_fld (o' := 1) Try.underlying70 rfl ty3 rfl rfl rfl)) ?_
        refine RL.gval (wantedF rfl rfl rfl rfl) (fun hg => (x_ld (v := .int .i64 ((t).keep)) ty3 (gvr hg) rfl (hb_13.cl.field (i := 1) rfl))) ?_
        refine RL.gval (wantedF rfl rfl rfl rfl) (fun hg => (x_sub (gvr hg) (gvr hg) (by simp only [br] at hg; omega) (by simp only [br] at hg; omega))) ?_
        refine RL.gval (wantedF rfl rfl rfl rfl) (fun hg => (x_gtI (gvr hg) (gvr hg))) ?_
        refine RL.val (x_or rfl rfl rfl) ?_
        refine RL.nil ?_
        refine Run.cond rfl (fun hc85 => ?_) (fun hc85 => ?_)
        · try simp only [br] at hc85
          refine Run.seq ?_
          refine Run.region ?_
          refine RL.val (x_assignI rfl) ?_
          refine RL.nil ?_
          refine Run.ret1 (v := .int .i64 (21)) Try.func56 rfl rfl ?_
          have he := te_tear hte hp (by rw [← htn]; exact hmay) (by rw [← htn]; exact lookR_in hok hr hrn) (.inr (tear_no (by show _ ∨ ((r.bytes.length : Nat) : Int) - (r.synced : Int) < _ ∨ ((r.bytes.length : Nat) : Int) - (r.synced : Int) - _ < _; rw [← htk, ← htl]; omega)))
          exact ⟨_, rfl, al, cl, rs, by rw [he], ⟨⟨hb, ho, hy, hox, hbx, hbo⟩, hok, hso⟩, by rw [crashL_no (by rw [he]; decide)], fun _ h _ => h, K0⟩
        · try simp only [br] at hc85
          have hte' := te_step hte hp (by rw [← htn]; exact hmay) (by rw [← htn]; exact lookR_in hok hr hrn) (fun j_ u_ h1 h2 => hno j_ u_ (by omega) h2) (tear_ok (by show _ ∧ _ ≤ ((r.bytes.length : Nat) : Int) - (r.synced : Int) ∧ _ ≤ ((r.bytes.length : Nat) : Int) - (r.synced : Int) - _; rw [← htk, ← htl]; omega))
          refine Run.skip ?_
          refine Run.inBlock ?_
          refine Run.region ?_
          refine RL.val (x_moveI rfl) ?_
          refine RL.val (litI (c := ((i + 1 : Nat) : Int)) (x_add rfl rfl (by omega) (by omega)) rfl) ?_
          refine RL.val (x_assignI rfl) ?_
          refine RL.nil ?_
          refine ih1 (i + 1) _ _ ?_ (by omega)
          refine ⟨⟨rfl, rfl, rfl, trivial⟩, K0, hb, ho, hy, ?_, ?_⟩
          · omega
          · exact hte'
  · try simp only [br] at hc19
    refine Run.exit rfl ?_
    refine Run.seq ?_
    have hil : i = pts.length := by rw [← ht.len]; omega
    have he0 : tornE (rs.map RF.p) pts [] = 0 := by rw [hte, hil, List.drop_length, tornE]
    obtain ⟨hpn, -⟩ := torn_nodup he0
    have hn := BytesAt.nil w_1
    refine Run.region ?_
    refine RL.val (x_assignSl rfl) ?_
    refine RL.nil ?_
    refine Run.seq ?_
    refine Run.seq ?_
    refine Run.region ?_
    refine RL.val (x_assignI rfl) ?_
    refine RL.nil ?_
    refine Run.block ?_
    refine Run.loop (ι := Nat) (fun m ρ' w' => ∃ out : List RF, ∃ ao : Option Addr, ∃ co : Nat, Holds ρ' [(0, .pointer (some ⟨x, 0, none⟩)), (1, .slice (a) (ts.length) (c)), (11, .slice (ao) ((out.map RF.c).length) (co)), (12, .int .i64 (((m : Nat) : Int)))] ∧ Keeps (refS x al rs) w w' ∧ (Blk w' x [.int .i64 (room), .slice (al) ((rs.map RF.c).length) (cl)] 89) ∧ (OwnSl w' 93 (al) (cl) (rs.map RF.c)) ∧ (BytesAt w' rs) ∧ (BytesAt w' out) ∧ (OwnSl w' 93 ao co (out.map RF.c)) ∧ (¬ bytesS out x) ∧ (∀ q_, bytesS out q_ → ¬ own al q_) ∧ (∀ q_, bytesS out q_ → ¬ bytesS rs q_) ∧ (∀ q_, bytesS out q_ → ¬ own ao q_) ∧ (∀ q_, bytesS out q_ → q_ < w.heap.size → (refS x al rs) q_) ∧ (¬ own ao x) ∧ (∀ q_, own ao q_ → ¬ own al q_) ∧ (∀ q_, own ao q_ → ¬ bytesS rs q_) ∧ (∀ q_, own ao q_ → q_ < w.heap.size → (refS x al rs) q_) ∧ (∀ q_, own ao q_ → w.heap.size ≤ q_) ∧ (m ≤ rs.length) ∧ (out.map RF.p = ((rs.take m).map RF.p).map (crashF pts))) (fun m => rs.length - m) 0 ?_ ?_
    · have ho_56 := OwnSl.nil (α := FileC) w_1 93
      refine ⟨[], _, _, ⟨rfl, rfl, rfl, rfl, trivial⟩, K0, hb, ho, hy, hn, ho_56, (fun ⟨_, h_, _⟩ => absurd h_ (by simp)), (fun q_ ⟨_, h_, _⟩ _ => absurd h_ (by simp)), (fun q_ ⟨_, h_, _⟩ _ => absurd h_ (by simp)), (fun q_ h1 h2 => (fun q_ h1 _ => own_none q_ h1) q_ h2 h1), (fun q_ ⟨_, h_, _⟩ _ => absurd h_ (by simp)), (own_none x), (fun q_ h1 _ => own_none q_ h1), (fun q_ h1 _ => own_none q_ h1), (fun q_ h1 _ => absurd h1 (own_none q_)), (fun q_ h1 => absurd h1 (own_none q_)), ?_, ?_⟩
      · omega
      · rfl
    clear hb ho hy hn
    clear K0
    rintro m ρ_57 w_42 ⟨out, ao, co, hH_43, K0, hb, ho, hy, hO_44, ho_45, pr_46, pr_47, pr_48, pr_49, pr_50, pr_51, pr_52, pr_53, pr_54, pr_55, hm, hout⟩ ih3
    obtain ⟨ρ₀, rfl⟩ := hH_43.ex
    clear hH_43
    refine Run.seq ?_
    refine Run.seq ?_
    refine Run.region ?_
    refine RL.val (x_moveI rfl) ?_
    refine RL.val (x_moveP rfl) ?_
    refine RL.val (x_nilCheck rfl) ?_
    refine RL.val (x_fld (o' := 1) Try.underlying89 rfl ty87 rfl rfl rfl) ?_
    refine RL.val (x_ld (v := .slice (al) ((rs.map RF.c).length) (cl)) ty87 rfl rfl (hb.cl.field (i := 1) rfl)) ?_
    refine RL.val (x_lenSl Try.underlying87 rfl) ?_
    refine RL.val (x_ltI rfl rfl) ?_
    refine RL.nil ?_
    refine Run.cond rfl (fun hc92 => ?_) (fun hc92 => ?_)
    · try simp only [br] at hc92
      refine Run.skip ?_
      refine Run.seq ?_
      refine Run.block ?_
      refine Run.seq ?_
      refine Run.region ?_
      refine RL.val (x_moveP rfl) ?_
      refine RL.val (x_nilCheck rfl) ?_
      refine RL.val (x_fld (o' := 1) Try.underlying89 rfl ty87 rfl rfl rfl) ?_
      refine RL.val (x_ld (v := .slice (al) ((rs.map RF.c).length) (cl)) ty87 rfl rfl (hb.cl.field (i := 1) rfl)) ?_
      refine RL.val (x_moveI rfl) ?_
      obtain ⟨b_58, o_59, y, hx, ha_60, hc_61⟩ := ho.sl.el (i := m) (by first | omega | (simp only [List.length_set]; omega))
      refine RL.val (x_idxN Try.underlying87 ty93 rfl rfl ha_60 (by first | omega | (simp only [List.length_set]; omega))) ?_
      obtain ⟨r, hr, hxr⟩ := rf_get hx
      have hn_r : y.name = r.name := by rw [hxr]; rfl
      refine RL.val (litV (v' := .agg #[.string (r.name), .slice (r.a) (r.bytes.length) (r.cap), .int .i64 (((r.synced : Nat) : Int))]) (x_ldV (v := .agg #[.string ((y).name), .slice ((y).b.a) ((y).b.len) ((y).b.cap), .int .i64 ((y).synced)]) (y := y) ty93 rfl hc_61 rfl) (by rw [hxr]; rfl)) ?_
      refine RL.st rfl <| St1.alloc ty93 ?_
      intro b_64 w_65 hl_68 hb_67 K_66
      replace hb_67 : Blk w_65 b_64 [.string (⟨#[]⟩), .slice (none) (0) (0), .int .i64 (0)] 93 := hb_67
      have ne_69 : x < b_64 := Nat.lt_of_lt_of_le hb.lt hl_68
      have ne_70 : b_58 < b_64 := Nat.lt_of_lt_of_le hc_61.lt hl_68
      have pr_71 : ¬ own al b_64 := fun h => absurd (ho.own_lt _ h) (by omega)
      have pr_72 : ¬ bytesS rs b_64 := fun h => absurd (hy.own_lt _ h) (by omega)
      have pr_73 : ¬ bytesS out b_64 := fun h => absurd (hO_44.own_lt _ h) (by omega)
      have pr_74 : ¬ own ao b_64 := fun h => absurd (ho_45.own_lt _ h) (by omega)
      have : w.heap.size ≤ b_64 := Nat.le_trans K0.size hl_68
      clear hl_68
      replace hb := hb.ext K_66
      replace ho := ho.ext K_66
      replace hy := hy.ext K_66
      replace hO_44 := hO_44.ext K_66
      replace ho_45 := ho_45.ext K_66
      replace hc_61 := hc_61.ext K_66
      replace K0 := K0.ext K_66
      refine RL.st rfl <| St1.store (v := .agg #[.string (r.name), .slice (r.a) (r.bytes.length) (r.cap), .int .i64 (((r.synced : Nat) : Int))]) ty93 rfl rfl rfl (by simp [Value.cells, Value.oneCell']) hb_67 (by simp) ?_
      intro w_75 hb_67_ K_76
      have hb_67' : Blk w_75 b_64 [.string (r.name), .slice (r.a) (r.bytes.length) (r.cap), .int .i64 (((r.synced : Nat) : Int))] 93 := hb_67_
      clear hb_67_
      replace hb := hb.keep K_76 (by simp only [one]; omega)
      replace ho := ho.keepO K_76 (fun q_ hq_ eq_ => pr_71 (by simp only [one] at eq_; rw [← eq_]; exact hq_))
      replace hy := hy.keepO K_76 (fun q_ hq_ eq_ => pr_72 (by simp only [one] at eq_; rw [← eq_]; exact hq_))
      replace hO_44 := hO_44.keepO K_76 (fun q_ hq_ eq_ => pr_73 (by simp only [one] at eq_; rw [← eq_]; exact hq_))
      replace ho_45 := ho_45.keepO K_76 (fun q_ hq_ eq_ => pr_74 (by simp only [one] at eq_; rw [← eq_]; exact hq_))
      replace hc_61 := hc_61.keep K_76 (fun e => pr_71 (by simp only [one] at e; rw [← e]; exact (own_sub _) _ ha_60))
      replace K0 := K0.trans K_76 (fun x hlt hx => absurd hlt (by simp only [one] at hx; omega))
      replace hb_67 := hb_67'
      clear hb_67'
      refine RL.nil ?_
      refine Run.seq ?_
      have hrbl : r.bytes.length ≤ 16777216 := by have := usedL_mem (pl := rs.map RF.p) (f := r.p) (List.mem_map.2 ⟨r, List.mem_of_getElem? hr, rfl⟩); have h2 : r.p.bytes = r.bytes := rfl; rw [h2] at this; omega
      have hrsy : r.synced ≤ r.bytes.length := hok.sync r.p (List.mem_map.2 ⟨r, List.mem_of_getElem? hr, rfl⟩)
      have hrcp := (hy.all r (List.mem_of_getElem? hr)).2.2
      have houl : out.length = m := by have := congrArg List.length hout; simp at this; omega
      have htl0 := List.length_take (i := r.synced) (l := r.bytes)
      have hrp : r.p ∈ rs.map RF.p := List.mem_map.2 ⟨r, List.mem_of_getElem? hr, rfl⟩
      refine Run.region ?_
      refine RL.val (x_fld (o' := 1) Try.underlying93 rfl ty26 rfl rfl rfl) ?_
      refine RL.val (x_ld (v := .slice (r.a) (r.bytes.length) (r.cap)) ty26 rfl rfl (hb_67.cl.field (i := 1) rfl)) ?_
      refine RL.val (x_fld (o' := 2) Try.underlying93 rfl ty3 rfl rfl rfl) ?_
      refine RL.val (x_ld (v := .int .i64 (((r.synced : Nat) : Int))) ty3 rfl rfl (hb_67.cl.field (i := 2) rfl)) ?_
      refine RL.val (litSl (m' := (r.bytes.take r.synced).length) (x_sliceTo Try.underlying26 ty5 rfl rfl (by omega)) (by rw [List.length_take]; omega)) ?_
      have ho_77 := OwnSl.nil (α := UInt8) w_75 5
      refine RL.st rfl <| St1.append (xs := ([] : List UInt8)) (ys := r.bytes.take r.synced) Try.underlying26 ty5 rfl rfl rfl ho_77 ((hy.all r (List.mem_of_getElem? hr)).1.take r.synced) (by simp only [lr]; omega) (by decide) ?_
      intro a_78 c_79 w_80 ho_81 K_82 hm_83 hrm_84
      have pr_85 : ¬ own a_78 x := hm_83.not (own_none x) hb.lt
      have pr_86 : ∀ q_, own a_78 q_ → ¬ own al q_ := hm_83.apart (fun q_ h1 _ => own_none q_ h1) ho.own_lt
      have pr_87 : ∀ q_, own a_78 q_ → ¬ bytesS rs q_ := hm_83.apart (fun q_ h1 _ => own_none q_ h1) hy.own_lt
      have pr_88 : ∀ q_, own a_78 q_ → ¬ bytesS out q_ := hm_83.apart (fun q_ h1 _ => own_none q_ h1) hO_44.own_lt
      have pr_89 : ∀ q_, own a_78 q_ → ¬ own ao q_ := hm_83.apart (fun q_ h1 _ => own_none q_ h1) ho_45.own_lt
      have pr_90 : ¬ own a_78 b_64 := hm_83.not (own_none b_64) hb_67.lt
      have pg_91 : ∀ q_, own a_78 q_ → q_ < w.heap.size → (refS x al rs) q_ := hm_83.inS (fun q_ h1 _ => absurd h1 (own_none q_)) K0.size
      have pw_92 : ∀ q_, own a_78 q_ → w.heap.size ≤ q_ := hm_83.ge (fun q_ h1 => absurd h1 (own_none q_)) K0.size
      replace hb := hb.keep K_82 (own_none x)
      replace ho := ho.keepO K_82 (fun q_ h1 h2 => (fun q_ h1 _ => own_none q_ h1) q_ h2 h1)
      replace hy := hy.keepO K_82 (fun q_ h1 h2 => (fun q_ h1 _ => own_none q_ h1) q_ h2 h1)
      replace hO_44 := hO_44.keepO K_82 (fun q_ h1 h2 => (fun q_ h1 _ => own_none q_ h1) q_ h2 h1)
      replace ho_45 := ho_45.keepO K_82 (fun q_ h1 h2 => (fun q_ h1 _ => own_none q_ h1) q_ h2 h1)
      replace hb_67 := hb_67.keep K_82 (own_none b_64)
      replace K0 := K0.trans K_82 (fun x hlt hx => (fun q_ h1 _ => absurd h1 (own_none q_)) x hx hlt)
      clear hm_83
      clear hrm_84
      rw [List.nil_append, show r.bytes.take r.synced = tornI pts r.p 0 from (tornI_zero pts r.p).symm] at ho_81 ⊢
      refine RL.val (x_assignSl rfl) ?_
      refine RL.nil ?_
      refine Run.seq ?_
      refine Run.seq ?_
      refine Run.region ?_
      refine RL.val (x_assignI rfl) ?_
      refine RL.nil ?_
      refine Run.block ?_
      refine Run.loop (ι := Nat) (fun k ρ' w' => ∃ ab : Option Addr, ∃ cb : Nat, Holds ρ' [(0, .pointer (some ⟨x, 0, none⟩)), (1, .slice (a) (ts.length) (c)), (11, .slice (ao) ((out.map RF.c).length) (co)), (12, .int .i64 (((m : Nat) : Int))), (13, .pointer (some ⟨b_64, 0, none⟩)), (14, .slice (ab) ((tornI pts r.p k).length) (cb)), (15, .int .i64 (((k : Nat) : Int))), (86, .int .i64 (((m : Nat) : Int))), (87, .pointer (some ⟨x, 0, none⟩)), (88, .pointer (some ⟨x, 0, none⟩)), (89, .pointer (some ⟨x, 1, none⟩)), (90, .slice (al) ((rs.map RF.c).length) (cl)), (91, .int .i64 ((((rs.map RF.c).length : Nat) : Int))), (92, .bool (decide (((m : Nat) : Int) < (((rs.map RF.c).length : Nat) : Int))))] ∧ Keeps (refS x al rs) w w' ∧ (Blk w' x [.int .i64 (room), .slice (al) ((rs.map RF.c).length) (cl)] 89) ∧ (Blk w' b_64 [.string (r.name), .slice (r.a) (r.bytes.length) (r.cap), .int .i64 (((r.synced : Nat) : Int))] 93) ∧ (OwnSl w' 93 (al) (cl) (rs.map RF.c)) ∧ (BytesAt w' rs) ∧ (BytesAt w' out) ∧ (OwnSl w' 93 (ao) (co) (out.map RF.c)) ∧ (OwnSl w' 5 ab cb (tornI pts r.p k)) ∧ (¬ own ab x) ∧ (¬ own ab b_64) ∧ (∀ q_, own ab q_ → ¬ own al q_) ∧ (∀ q_, own ab q_ → ¬ bytesS rs q_) ∧ (∀ q_, own ab q_ → ¬ bytesS out q_) ∧ (∀ q_, own ab q_ → ¬ own ao q_) ∧ (∀ q_, own ab q_ → q_ < w.heap.size → (refS x al rs) q_) ∧ (∀ q_, own ab q_ → w.heap.size ≤ q_) ∧ (k ≤ ts.length)) (fun k => ts.length - k) 0 ?_ ?_
      · refine ⟨_, _, ⟨rfl, rfl, rfl, rfl, rfl, rfl, rfl, rfl, rfl, rfl, rfl, rfl, rfl, rfl, trivial⟩, K0, hb, hb_67, ho, hy, hO_44, ho_45, ho_81, pr_85, pr_90, pr_86, pr_87, pr_88, pr_89, pg_91, pw_92, ?_⟩
        · omega
      clear hb ho hy hO_44 ho_45 hb_67 ho_81
      clear K0
      rintro k ρ_104 w_93 ⟨ab, cb, hH_94, K0, hb, hb_67, ho, hy, hO_44, ho_45, ho_95, pr_96, pr_97, pr_98, pr_99, pr_100, pr_101, pr_102, pr_103, hk⟩ ih4
      obtain ⟨ρ₀, rfl⟩ := hH_94.ex
      clear hH_94
      refine Run.seq ?_
      refine Run.seq ?_
      refine Run.region ?_
      refine RL.val (x_moveI rfl) ?_
      refine RL.val (x_moveSl rfl) ?_
      refine RL.val (x_lenSl Try.underlying32 rfl) ?_
      refine RL.val (x_ltI rfl rfl) ?_
      refine RL.nil ?_
      refine Run.cond rfl (fun hc111 => ?_) (fun hc111 => ?_)
      · try simp only [br] at hc111
        refine Run.skip ?_
        refine Run.seq ?_
        refine Run.block ?_
        refine Run.seq ?_
        obtain ⟨b_107, o_108, u, hu, ha_109, hc_110⟩ := hs.el (i := k) (by first | omega | (simp only [List.length_set]; omega))
        have hc_110_lt := hc_110.lt
        replace hc_110 := hc_110.keep K0 (hdis _ ha_109 (ne_get hu))
        refine Run.draw' (m := 8) (by kernel_rfl) rfl ?_
        intro w_105 K_106
        replace hb := hb.ext K_106
        replace hb_67 := hb_67.ext K_106
        replace ho := ho.ext K_106
        replace hy := hy.ext K_106
        replace hO_44 := hO_44.ext K_106
        replace ho_45 := ho_45.ext K_106
        replace ho_95 := ho_95.ext K_106
        replace hc_110 := hc_110.ext K_106
        replace K0 := K0.ext K_106
        refine RA.take (v := .slice (a) (ts.length) (c)) 0 rfl (by kernel_rfl) rfl (by rintro _ rfl; exact (x_moveSl rfl)) ?_
        refine RA.take (v := .int .i64 (((k : Nat) : Int))) 1 rfl (by kernel_rfl) rfl (by rintro _ rfl; exact (x_moveI rfl)) ?_
        refine RA.take (v := .pointer (some ⟨b_107, o_108 + k * 3, none⟩)) 2 rfl (by kernel_rfl) rfl (by rintro _ rfl; exact (x_idxN Try.underlying32 ty70 rfl rfl ha_109 (by first | omega | (simp only [List.length_set]; omega)))) ?_
        refine RA.take (v := .pointer (some ⟨b_107, o_108 + k * 3 + 0, none⟩)) 3 rfl (by kernel_rfl) rfl (by rintro _ rfl; exact (x_fld (o' := o_108 + k * 3 + 0) Try.underlying70 rfl ty9 rfl rfl rfl)) ?_
        refine RA.take (v := .string ((u).name)) 4 rfl (by kernel_rfl) rfl (by rintro _ rfl; exact (x_ld ty9 rfl rfl (hc_110.field (i := 0) rfl))) ?_
        refine RA.take (v := .pointer (some ⟨b_64, 0, none⟩)) 5 rfl (by kernel_rfl) rfl (by rintro _ rfl; exact (x_fld (o' := 0) Try.underlying93 rfl ty9 rfl rfl rfl)) ?_
        refine RA.take (v := .string (r.name)) 6 rfl (by kernel_rfl) rfl (by rintro _ rfl; exact (x_ld (v := .string (r.name)) ty9 rfl rfl (hb_67.cl.field (i := 0) rfl))) ?_
        refine RA.take (v := .bool (decide ((u).name = r.name))) 7 rfl (by kernel_rfl) rfl (by rintro _ rfl; exact (x_eqS rfl rfl)) ?_
        refine RA.done (by kernel_rfl) ?_
        refine Run.cond rfl (fun hc121 => ?_) (fun hc121 => ?_)
        · try simp only [br] at hc121
          obtain ⟨q, hq⟩ : ∃ p_, pts[k]? = some p_ := ⟨_, List.getElem?_eq_getElem (by rw [← ht.len]; omega)⟩
          obtain ⟨htnq, htkq, htlq, htjq⟩ := ht.all k u q hu hq
          obtain ⟨hz1q, hz2q, hz3q, hz4q⟩ := ht.size q (List.mem_of_getElem? hq)
          have hqn : q.name = r.p.name := by rw [← htnq]; exact hc121
          obtain ⟨e1, e2⟩ := tornI_at (f := r.p) hpn hq hqn
          replace e1 : tornI pts r.p k = r.bytes.take r.synced := e1
          obtain ⟨f0, g1, g2⟩ := tornE_ok he0 q (List.mem_of_getElem? hq)
          rw [hqn, lookL_mem hok.nodup hrp] at g1
          cases g1
          simp only [tearOk, Bool.and_eq_true, decide_eq_true_eq] at g2
          replace g2 : 0 ≤ q.keep ∧ q.keep ≤ ((r.bytes.length : Nat) : Int) - (r.synced : Int) ∧ (q.junk.length : Int) ≤ ((r.bytes.length : Nat) : Int) - (r.synced : Int) - q.keep := g2
          rw [e1] at ho_95 ⊢
          have htl1 := List.length_take (i := r.synced + q.keep.toNat) (l := r.bytes)
          have htl2 := List.length_drop (i := r.synced) (l := r.bytes.take (r.synced + q.keep.toNat))
          refine Run.seq ?_
          obtain ⟨b_115, o_116, x_119, hx_120, ha_117, hc_118⟩ := hs.el (i := k) (by first | omega | (simp only [List.length_set]; omega))
          have hc_118_lt := hc_118.lt
          replace hc_118 := hc_118.keep K0 (hdis _ ha_117 (ne_get hx_120))
          obtain rfl : u = x_119 := Option.some.inj (hu.symm.trans hx_120)
          refine Run.drawT [] (m := 16) (by kernel_rfl) rfl ?_
          intro w_113 K_114
          replace hb := hb.ext K_114
          replace hb_67 := hb_67.ext K_114
          replace ho := ho.ext K_114
          replace hy := hy.ext K_114
          replace hO_44 := hO_44.ext K_114
          replace ho_45 := ho_45.ext K_114
          replace ho_95 := ho_95.ext K_114
          replace hc_118 := hc_118.ext K_114
          replace K0 := K0.ext K_114
          refine ⟨fun w' => Blk w' b_64 [.string (r.name), .slice (r.a) (r.bytes.length) (r.cap), .int .i64 (((r.synced : Nat) : Int))] 93 ∧ Cl w' b_115 (o_116 + k * 3) (cellsOf u) ∧ True, ?_⟩
          refine RT.takeP (v := .slice (ab) ((r.bytes.take r.synced).length) (cb)) 0 rfl (by kernel_rfl) (.inr ⟨hb_67, hc_118, trivial⟩) (fun _ => (x_moveSl rfl)) ?_
          refine RT.takeP (v := .pointer (some ⟨b_64, 1, none⟩)) 1 rfl (by kernel_rfl) (.inr ⟨hb_67, hc_118, trivial⟩) (fun _ => (x_fld (o' := 1) Try.underlying93 rfl ty26 rfl rfl rfl)) ?_
          refine RT.take (v := .slice (r.a) (r.bytes.length) (r.cap)) 2 rfl (by kernel_rfl) ⟨hb_67, hc_118, trivial⟩ (by rintro _ ⟨hb_67, hc_118, -⟩; exact (x_ld (v := .slice (r.a) (r.bytes.length) (r.cap)) ty26 rfl rfl (hb_67.cl.field (i := 1) rfl))) ?_
          refine RT.takeP (v := .pointer (some ⟨b_64, 2, none⟩)) 3 rfl (by kernel_rfl) (.inr ⟨hb_67, hc_118, trivial⟩) (fun _ => (x_fld (o' := 2) Try.underlying93 rfl ty3 rfl rfl rfl)) ?_
          refine RT.take (v := .int .i64 (((r.synced : Nat) : Int))) 4 rfl (by kernel_rfl) ⟨hb_67, hc_118, trivial⟩ (by rintro _ ⟨hb_67, hc_118, -⟩; exact (x_ld (v := .int .i64 (((r.synced : Nat) : Int))) ty3 rfl rfl (hb_67.cl.field (i := 2) rfl))) ?_
          refine RT.takeP (v := .pointer (some ⟨b_64, 2, none⟩)) 5 rfl (by kernel_rfl) (.inr ⟨hb_67, hc_118, trivial⟩) (fun _ => (x_fld (o' := 2) Try.underlying93 rfl ty3 rfl rfl rfl)) ?_
          refine RT.take (v := .int .i64 (((r.synced : Nat) : Int))) 6 rfl (by kernel_rfl) ⟨hb_67, hc_118, trivial⟩ (by rintro _ ⟨hb_67, hc_118, -⟩; exact (x_ld (v := .int .i64 (((r.synced : Nat) : Int))) ty3 rfl rfl (hb_67.cl.field (i := 2) rfl))) ?_
          refine RT.takeP (v := .slice (a) (ts.length) (c)) 7 rfl (by kernel_rfl) (.inr ⟨hb_67, hc_118, trivial⟩) (fun _ => (x_moveSl rfl)) ?_
          refine RT.takeP (v := .int .i64 (((k : Nat) : Int))) 8 rfl (by kernel_rfl) (.inr ⟨hb_67, hc_118, trivial⟩) (fun _ => (x_moveI rfl)) ?_
          refine RT.takeP (v := .pointer (some ⟨b_115, o_116 + k * 3, none⟩)) 9 rfl (by kernel_rfl) (.inr ⟨hb_67, hc_118, trivial⟩) (fun _ => (x_idxN Try.underlying32 ty70 rfl rfl ha_117 (by first | omega | (simp only [List.length_set]; omega)))) ?_
          refine RT.takeP (v := .pointer (some ⟨b_115, o_116 + k * 3 + 1, none⟩)) 10 rfl (by kernel_rfl) (.inr ⟨hb_67, hc_118, trivial⟩) (fun _ => (x_fld (o' := o_116 + k * 3 + 1) Try.underlying70 rfl ty3 rfl rfl rfl)) ?_
          refine RT.take (v := .int .i64 ((u).keep)) 11 rfl (by kernel_rfl) ⟨hb_67, hc_118, trivial⟩ (by rintro _ ⟨hb_67, hc_118, -⟩; exact (x_ld ty3 rfl rfl (hc_118.field (i := 1) rfl))) ?_
          refine RT.takeP (v := .int .i64 (((r.synced + q.keep.toNat : Nat) : Int))) 12 rfl (by kernel_rfl) (.inr ⟨hb_67, hc_118, trivial⟩) (fun _ => (litI (c := ((r.synced + q.keep.toNat : Nat) : Int)) (x_add rfl rfl (by omega) (by omega)) (by omega))) ?_
          refine RT.takeP (v := .slice (advA r.a r.cap r.synced 1) (((r.bytes.take (r.synced + q.keep.toNat)).drop r.synced).length) (r.cap - r.synced)) 13 rfl (by kernel_rfl) (.inr ⟨hb_67, hc_118, trivial⟩) (fun _ => (litSl (m' := ((r.bytes.take (r.synced + q.keep.toNat)).drop r.synced).length) (x_sliceFT Try.underlying26 ty5 rfl rfl rfl (by omega) (by omega)) (by rw [List.length_drop, List.length_take]; omega))) ?_
          refine RT.st 14 rfl (by kernel_rfl) rfl <| St1.append (xs := r.bytes.take r.synced) (ys := (r.bytes.take (r.synced + q.keep.toNat)).drop r.synced) Try.underlying26 ty5 rfl rfl rfl ho_95 (((hy.all r (List.mem_of_getElem? hr)).1.take (r.synced + q.keep.toNat)).from r.synced r.cap (by rw [List.length_take]; omega)) (by omega) (by decide) ?_
          intro a_121 c_122 w_123 ho_124 K_125 hm_126 hrm_127
          have pr_128 : ¬ own a_121 x := hm_126.not pr_96 hb.lt
          have pr_129 : ¬ own a_121 b_64 := hm_126.not pr_97 hb_67.lt
          have pr_130 : ∀ q_, own a_121 q_ → ¬ own al q_ := hm_126.apart pr_98 ho.own_lt
          have pr_131 : ∀ q_, own a_121 q_ → ¬ bytesS rs q_ := hm_126.apart pr_99 hy.own_lt
          have pr_132 : ∀ q_, own a_121 q_ → ¬ bytesS out q_ := hm_126.apart pr_100 hO_44.own_lt
          have pr_133 : ∀ q_, own a_121 q_ → ¬ own ao q_ := hm_126.apart pr_101 ho_45.own_lt
          have pg_134 : ∀ q_, own a_121 q_ → q_ < w.heap.size → (refS x al rs) q_ := hm_126.inS pr_102 K0.size
          have pw_135 : ∀ q_, own a_121 q_ → w.heap.size ≤ q_ := hm_126.ge pr_103 K0.size
          replace hb := hb.keep K_125 pr_96
          replace hb_67 := hb_67.keep K_125 pr_97
          replace ho := ho.keepO K_125 (fun q_ h1 h2 => pr_98 q_ h2 h1)
          replace hy := hy.keepO K_125 (fun q_ h1 h2 => pr_99 q_ h2 h1)
          replace hO_44 := hO_44.keepO K_125 (fun q_ h1 h2 => pr_100 q_ h2 h1)
          replace ho_45 := ho_45.keepO K_125 (fun q_ h1 h2 => pr_101 q_ h2 h1)
          replace hc_118 := hc_118.keep K_125 (fun h => hdis _ ha_117 (ne_get hx_120) (pr_102 _ h hc_118_lt))
          replace K0 := K0.trans K_125 (fun x hlt hx => pr_102 x hx hlt)
          clear hm_126
          clear hrm_127
          refine ⟨.inr ⟨hb_67, hc_118, trivial⟩, ?_⟩
          refine RT.takeP (v := .slice (a_121) (((r.bytes.take r.synced) ++ (r.bytes.take (r.synced + q.keep.toNat)).drop r.synced).length) (c_122)) 15 rfl (by kernel_rfl) (.inr ⟨hb_67, hc_118, trivial⟩) (fun _ => (x_assignSl rfl)) ?_
          refine RT.done (by kernel_rfl) ?_
          refine Run.region ?_
          refine RL.val (x_moveSl rfl) ?_
          refine RL.val (x_moveSl rfl) ?_
          refine RL.val (x_moveI rfl) ?_
          obtain ⟨b_136, o_137, x_140, hx_141, ha_138, hc_139⟩ := hs.el (i := k) (by first | omega | (simp only [List.length_set]; omega))
          have hc_139_lt := hc_139.lt
          replace hc_139 := hc_139.keep K0 (hdis _ ha_138 (ne_get hx_141))
          obtain rfl : u = x_140 := Option.some.inj (hu.symm.trans hx_141)
          refine RL.val (x_idxN Try.underlying32 ty70 rfl rfl ha_138 (by first | omega | (simp only [List.length_set]; omega))) ?_
          refine RL.val (x_fld (o' := o_137 + k * 3 + 2) Try.underlying70 rfl ty26 rfl rfl rfl) ?_
          refine RL.val (litSl (m' := q.junk.length) (x_ld ty26 rfl rfl (hc_139.field (i := 2) rfl)) htlq) ?_
          refine RL.st rfl <| St1.append (xs := (r.bytes.take r.synced) ++ (r.bytes.take (r.synced + q.keep.toNat)).drop r.synced) (ys := q.junk) Try.underlying26 ty5 rfl rfl rfl ho_124 (htjq.keepN K0 (fun x_ h1 h2 => hdj k u q hu hq x_ h1 h2)) (by simp only [lr]; omega) (by decide) ?_
          intro a_142 c_143 w_144 ho_145 K_146 hm_147 hrm_148
          have pr_149 : ¬ own a_142 x := hm_147.not pr_128 hb.lt
          have pr_150 : ¬ own a_142 b_64 := hm_147.not pr_129 hb_67.lt
          have pr_151 : ∀ q_, own a_142 q_ → ¬ own al q_ := hm_147.apart pr_130 ho.own_lt
          have pr_152 : ∀ q_, own a_142 q_ → ¬ bytesS rs q_ := hm_147.apart pr_131 hy.own_lt
          have pr_153 : ∀ q_, own a_142 q_ → ¬ bytesS out q_ := hm_147.apart pr_132 hO_44.own_lt
          have pr_154 : ∀ q_, own a_142 q_ → ¬ own ao q_ := hm_147.apart pr_133 ho_45.own_lt
          have pg_155 : ∀ q_, own a_142 q_ → q_ < w.heap.size → (refS x al rs) q_ := hm_147.inS pg_134 K0.size
          have pw_156 : ∀ q_, own a_142 q_ → w.heap.size ≤ q_ := hm_147.ge pw_135 K0.size
          replace hb := hb.keep K_146 pr_128
          replace hb_67 := hb_67.keep K_146 pr_129
          replace ho := ho.keepO K_146 (fun q_ h1 h2 => pr_130 q_ h2 h1)
          replace hy := hy.keepO K_146 (fun q_ h1 h2 => pr_131 q_ h2 h1)
          replace hO_44 := hO_44.keepO K_146 (fun q_ h1 h2 => pr_132 q_ h2 h1)
          replace ho_45 := ho_45.keepO K_146 (fun q_ h1 h2 => pr_133 q_ h2 h1)
          replace hc_139 := hc_139.keep K_146 (fun h => hdis _ ha_138 (ne_get hx_141) (pg_134 _ h hc_139_lt))
          replace K0 := K0.trans K_146 (fun x hlt hx => pg_134 x hx hlt)
          clear hm_147
          clear hrm_148
          refine RL.val (x_assignSl rfl) ?_
          refine RL.nil ?_
          rw [show r.bytes.take r.synced ++ (r.bytes.take (r.synced + q.keep.toNat)).drop r.synced ++ q.junk = tornI pts r.p (k + 1) from (torn_app (f := r.p) hrsy g2.1).trans e2.symm] at ho_145 ⊢
          refine Run.inBlock ?_
          refine Run.region ?_
          refine RL.val (x_moveI rfl) ?_
          refine RL.val (litI (c := ((k + 1 : Nat) : Int)) (x_add rfl rfl (by omega) (by omega)) rfl) ?_
          refine RL.val (x_assignI rfl) ?_
          refine RL.nil ?_
          refine ih4 (k + 1) _ _ ?_ (by omega)
          refine ⟨_, _, ⟨rfl, rfl, rfl, rfl, rfl, rfl, rfl, rfl, rfl, rfl, rfl, rfl, rfl, rfl, trivial⟩, K0, hb, hb_67, ho, hy, hO_44, ho_45, ho_145, pr_149, pr_150, pr_151, pr_152, pr_153, pr_154, pg_155, pw_156, ?_⟩
          · omega
        · try simp only [br] at hc121
          obtain ⟨q, hq⟩ : ∃ p_, pts[k]? = some p_ := ⟨_, List.getElem?_eq_getElem (by rw [← ht.len]; omega)⟩
          obtain ⟨htnq, htkq, htlq, htjq⟩ := ht.all k u q hu hq
          obtain ⟨hz1q, hz2q, hz3q, hz4q⟩ := ht.size q (List.mem_of_getElem? hq)
          have hqn : q.name ≠ r.p.name := by rw [← htnq]; exact hc121
          refine Run.skip ?_
          refine Run.inBlock ?_
          refine Run.region ?_
          refine RL.val (x_moveI rfl) ?_
          refine RL.val (litI (c := ((k + 1 : Nat) : Int)) (x_add rfl rfl (by omega) (by omega)) rfl) ?_
          refine RL.val (x_assignI rfl) ?_
          refine RL.nil ?_
          have e_ := tornI_no (f := r.p) hq hqn
          refine ih4 (k + 1) _ _ ?_ (by omega)
          rw [e_]
          refine ⟨_, _, ⟨rfl, rfl, rfl, rfl, rfl, rfl, rfl, rfl, rfl, rfl, rfl, rfl, rfl, rfl, trivial⟩, K0, hb, hb_67, ho, hy, hO_44, ho_45, ho_95, pr_96, pr_97, pr_98, pr_99, pr_100, pr_101, pr_102, pr_103, ?_⟩
          · omega
      · try simp only [br] at hc111
        refine Run.exit rfl ?_
        have hkl : k = pts.length := by rw [← ht.len]; omega
        rw [hkl] at ho_95 ⊢
        have htil := tornI_len (f := r.p) (k := pts.length) he0 hok.nodup hrp hrsy
        replace htil : (tornI pts r.p pts.length).length ≤ r.bytes.length := htil
        refine Run.region ?_
        refine RL.val (x_moveSl rfl) ?_
        refine RL.val (x_fld (o' := 0) Try.underlying93 rfl ty9 rfl rfl rfl) ?_
        refine RL.val (x_ld (v := .string (r.name)) ty9 rfl rfl (hb_67.cl.field (i := 0) rfl)) ?_
        refine RL.val (x_moveSl rfl) ?_
        refine RL.val (x_moveSl rfl) ?_
        refine RL.val (x_lenSl Try.underlying26 rfl) ?_
        refine RL.val (x_build (cells := #[.string (r.name), .slice (ab) ((tornI pts r.p pts.length).length) (cb), .int .i64 ((((tornI pts r.p pts.length).length : Nat) : Int))]) (by kernel_rfl)) ?_
        refine RL.st rfl <| St1.buildSlice ([(⟨r.name, ⟨ab, (tornI pts r.p pts.length).length, cb⟩, (((tornI pts r.p pts.length).length : Nat) : Int)⟩ : FileC)] : List FileC) Try.underlying87 ty93 rfl rfl (by first | decide | (simp [Enc.size])) ?_
        intro b_157 w_158 hl_161 ho_160 K_159
        have pr_162 : ¬ own (some ⟨b_157, 0, none⟩) x := notNew (ge_new hl_161) hb.lt
        have pr_163 : ¬ own (some ⟨b_157, 0, none⟩) b_64 := notNew (ge_new hl_161) hb_67.lt
        have pr_164 : ∀ q_, own (some ⟨b_157, 0, none⟩) q_ → ¬ own al q_ := apartNew (ge_new hl_161) ho.own_lt
        have pr_165 : ∀ q_, own (some ⟨b_157, 0, none⟩) q_ → ¬ bytesS rs q_ := apartNew (ge_new hl_161) hy.own_lt
        have pr_166 : ∀ q_, own (some ⟨b_157, 0, none⟩) q_ → ¬ bytesS out q_ := apartNew (ge_new hl_161) hO_44.own_lt
        have pr_167 : ∀ q_, own (some ⟨b_157, 0, none⟩) q_ → ¬ own ao q_ := apartNew (ge_new hl_161) ho_45.own_lt
        have pr_168 : ∀ q_, own (some ⟨b_157, 0, none⟩) q_ → ¬ own ab q_ := apartNew (ge_new hl_161) ho_95.own_lt
        have pg_169 : ∀ q_, own (some ⟨b_157, 0, none⟩) q_ → q_ < w.heap.size → (refS x al rs) q_ := fun q_ h hlt => absurd (Nat.le_trans K0.size ((ge_new hl_161) q_ h)) (by omega)
        have pw_170 : ∀ q_, own (some ⟨b_157, 0, none⟩) q_ → w.heap.size ≤ q_ := fun q_ h => Nat.le_trans K0.size ((ge_new hl_161) q_ h)
        clear hl_161
        replace hb := hb.ext K_159
        replace hb_67 := hb_67.ext K_159
        replace ho := ho.ext K_159
        replace hy := hy.ext K_159
        replace hO_44 := hO_44.ext K_159
        replace ho_45 := ho_45.ext K_159
        replace ho_95 := ho_95.ext K_159
        replace K0 := K0.ext K_159
        refine RL.st rfl <| St1.append (xs := out.map RF.c) (ys := ([(⟨r.name, ⟨ab, (tornI pts r.p pts.length).length, cb⟩, (((tornI pts r.p pts.length).length : Nat) : Int)⟩ : FileC)] : List FileC)) Try.underlying87 ty93 rfl rfl rfl ho_45 ho_160.sl (by rw [List.length_map, houl]; simp only [lr]; omega) (by decide) ?_
        intro a_171 c_172 w_173 ho_174 K_175 hm_176 hrm_177
        have pr_178 : ¬ own a_171 x := hm_176.not pr_51 hb.lt
        have pr_179 : ¬ own a_171 b_64 := hm_176.not pr_74 hb_67.lt
        have pr_180 : ∀ q_, own a_171 q_ → ¬ own al q_ := hm_176.apart pr_52 ho.own_lt
        have pr_181 : ∀ q_, own a_171 q_ → ¬ bytesS rs q_ := hm_176.apart pr_53 hy.own_lt
        have pr_182 : ∀ q_, own a_171 q_ → ¬ bytesS out q_ := hm_176.apart (fun q_ h1 h2 => pr_49 q_ h2 h1) hO_44.own_lt
        have pr_183 : ∀ q_, own a_171 q_ → ¬ own ab q_ := hm_176.apart (fun q_ h1 h2 => pr_101 q_ h2 h1) ho_95.own_lt
        have pr_184 : ∀ q_, own a_171 q_ → ¬ own (some ⟨b_157, 0, none⟩) q_ := hm_176.apart (fun q_ h1 h2 => pr_167 q_ h2 h1) ho_160.own_lt
        have pg_185 : ∀ q_, own a_171 q_ → q_ < w.heap.size → (refS x al rs) q_ := hm_176.inS pr_54 K0.size
        have pw_186 : ∀ q_, own a_171 q_ → w.heap.size ≤ q_ := hm_176.ge pr_55 K0.size
        replace hb := hb.keep K_175 pr_51
        replace hb_67 := hb_67.keep K_175 pr_74
        replace ho := ho.keepO K_175 (fun q_ h1 h2 => pr_52 q_ h2 h1)
        replace hy := hy.keepO K_175 (fun q_ h1 h2 => pr_53 q_ h2 h1)
        replace hO_44 := hO_44.keepO K_175 pr_49
        replace ho_95 := ho_95.keepO K_175 pr_101
        replace ho_160 := ho_160.keepO K_175 pr_167
        replace K0 := K0.trans K_175 (fun x hlt hx => pr_54 x hx hlt)
        clear hm_176
        clear hrm_177
        refine RL.val (x_assignSl rfl) ?_
        refine RL.nil ?_
        rw [rc_snoc3] at ho_174 ⊢
        have hn' := hO_44.snoc ho_95 r.name (tornI pts r.p pts.length).length
        have pr_187 : ¬ bytesS (out ++ [(⟨r.name, ab, cb, tornI pts r.p pts.length, (tornI pts r.p pts.length).length⟩ : RF)]) x := fun x_ => (bytesS_snoc _ x_).elim pr_96 (fun y_ => pr_46 y_)
        have pr_188 : ¬ bytesS (out ++ [(⟨r.name, ab, cb, tornI pts r.p pts.length, (tornI pts r.p pts.length).length⟩ : RF)]) b_64 := fun x_ => (bytesS_snoc _ x_).elim pr_97 (fun y_ => pr_73 y_)
        have pr_189 : ∀ q_, bytesS (out ++ [(⟨r.name, ab, cb, tornI pts r.p pts.length, (tornI pts r.p pts.length).length⟩ : RF)]) q_ → ¬ own al q_ := fun q_ x_ z_ => (bytesS_snoc _ x_).elim (fun y_ => pr_98 q_ y_ z_) (fun y_ => (fun y_ => pr_47 q_ y_ z_) y_)
        have pr_190 : ∀ q_, bytesS (out ++ [(⟨r.name, ab, cb, tornI pts r.p pts.length, (tornI pts r.p pts.length).length⟩ : RF)]) q_ → ¬ bytesS rs q_ := fun q_ x_ z_ => (bytesS_snoc _ x_).elim (fun y_ => pr_99 q_ y_ z_) (fun y_ => (fun y_ => pr_48 q_ y_ z_) y_)
        have pr_191 : ∀ q_, bytesS (out ++ [(⟨r.name, ab, cb, tornI pts r.p pts.length, (tornI pts r.p pts.length).length⟩ : RF)]) q_ → ¬ own (some ⟨b_157, 0, none⟩) q_ := fun q_ x_ z_ => (bytesS_snoc _ x_).elim (fun y_ => (fun q_ h1 h2 => pr_168 q_ h2 h1) q_ y_ z_) (fun y_ => (fun y_ => (fun q_ h1 h2 => pr_166 q_ h2 h1) q_ y_ z_) y_)
        have pr_192 : ∀ q_, bytesS (out ++ [(⟨r.name, ab, cb, tornI pts r.p pts.length, (tornI pts r.p pts.length).length⟩ : RF)]) q_ → ¬ own a_171 q_ := fun q_ x_ z_ => (bytesS_snoc _ x_).elim (fun y_ => (fun q_ h1 h2 => pr_183 q_ h2 h1) q_ y_ z_) (fun y_ => (fun y_ => (fun q_ h1 h2 => pr_182 q_ h2 h1) q_ y_ z_) y_)
        have pg_193 : ∀ q_, bytesS (out ++ [(⟨r.name, ab, cb, tornI pts r.p pts.length, (tornI pts r.p pts.length).length⟩ : RF)]) q_ → q_ < w.heap.size → (refS x al rs) q_ := fun q_ x_ hl_ => (bytesS_snoc _ x_).elim (fun y_ => pr_102 q_ y_ hl_) (fun y_ => (fun y_ => pr_50 q_ y_ hl_) y_)
        refine Run.inBlock ?_
        refine Run.region ?_
        refine RL.val (x_moveI rfl) ?_
        refine RL.val (litI (c := ((m + 1 : Nat) : Int)) (x_add rfl rfl (by omega) (by omega)) rfl) ?_
        refine RL.val (x_assignI rfl) ?_
        refine RL.nil ?_
        refine ih3 (m + 1) _ _ ?_ (by omega)
        refine ⟨(out ++ [(⟨r.name, ab, cb, tornI pts r.p pts.length, (tornI pts r.p pts.length).length⟩ : RF)]), _, _, ⟨rfl, rfl, rfl, rfl, trivial⟩, K0, hb, ho, hy, hn', ho_174, pr_187, pr_189, pr_190, pr_192, pg_193, pr_178, pr_180, pr_181, pg_185, pw_186, ?_, ?_⟩
        · omega
        · exact crash_snoc hout hr
    · try simp only [br] at hc92
      refine Run.exit rfl ?_
      refine Run.seq ?_
      refine Run.region ?_
      refine RL.val (x_moveP rfl) ?_
      refine RL.val (x_moveSl rfl) ?_
      refine RL.val (x_nilCheck rfl) ?_
      refine RL.val (x_fld (o' := 1) Try.underlying89 rfl ty87 rfl rfl rfl) ?_
      refine RL.st rfl <| St1.store (v := .slice (ao) ((out.map RF.c).length) (co)) ty87 rfl rfl rfl (by simp [Value.cells, Value.oneCell']) hb (by simp) ?_
      intro w_194 hb_ K_195
      have hb' : Blk w_194 x [.int .i64 (room), .slice (ao) ((out.map RF.c).length) (co)] 89 := hb_
      clear hb_
      replace ho := ho.keepO K_195 (fun q_ hq_ eq_ => hox (by simp only [one] at eq_; rw [← eq_]; exact hq_))
      replace hy := hy.keepO K_195 (fun q_ hq_ eq_ => hbx (by simp only [one] at eq_; rw [← eq_]; exact hq_))
      replace hO_44 := hO_44.keepO K_195 (fun q_ hq_ eq_ => pr_46 (by simp only [one] at eq_; rw [← eq_]; exact hq_))
      replace ho_45 := ho_45.keepO K_195 (fun q_ hq_ eq_ => pr_51 (by simp only [one] at eq_; rw [← eq_]; exact hq_))
      replace K0 := K0.trans K_195 (fun x _ hx => by simp only [one] at hx; subst hx; exact (Or.inl (Or.inl rfl)))
      replace hb := hb'
      clear hb'
      refine RL.nil ?_
      refine Run.seq ?_
      refine Run.region ?_
      refine RL.val (x_assignI rfl) ?_
      refine RL.nil ?_
      refine Run.ret1 (v := .int .i64 (0)) Try.func56 rfl rfl ?_
      have hil : m = rs.length := by omega
      rw [hil, List.take_length] at hout
      have heq : out.map RF.p = crashL (rs.map RF.p) pts := by rw [crashL_ok he0]; exact hout
      exact ⟨_, rfl, ao, co, out, by rw [he0], ⟨⟨hb, ho_45, hO_44, pr_51, pr_46, pr_49⟩, by rw [heq]; exact hok.crash, by rw [hout]; exact SortedL.crash hso⟩, by rw [heq], fun q_ h_ hl_ => h_.elim (fun h_ => h_.elim (fun e_ => Or.inl (Or.inl e_)) (fun h_ => pr_54 q_ h_ hl_)) (fun h_ => pr_50 q_ h_ hl_), K0⟩

end Go.Proofs.Ytambibdkanpmaaa
