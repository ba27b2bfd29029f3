/-
  Layer 2's laws: the functions that they share.
-/
import Derived.Test.YtambibdkanpmaaaRows
import Derived.Test.YtambibdkanpmaaaDg
namespace Go.Proofs.Ytambibdkanpmaaa
attribute [local irreducible] St1 RL RA RT RT1 Run

/-- tears in memory of their own -/
structure CT where
  p : PTear
  a : Option Addr
  cap : Nat
def CT.t (x : CT) : TearC := ⟨x.p.name, x.p.keep, ⟨x.a, x.p.junk.length, x.cap⟩⟩
def CT.l (x : CT) : LeftS := ⟨x.p.name, x.a, x.cap, x.p.junk⟩
theorem tearsAt_of {w : World} {cs : List CT} {pts : List PTear} (h : LeftAt w (cs.map CT.l)) (e : cs.map CT.p = pts) (hs : ∀ p ∈ pts, p.name.size ≤ 4294967295 ∧ p.junk.length ≤ 4294967295 ∧ -9223372036854775808 ≤ p.keep ∧ p.keep ≤ 9223372036854775807) : TearsAt w (cs.map CT.t) pts := by
  subst e
  refine ⟨by simp, fun i t p ht hp => ?_, hs⟩
  rw [List.getElem?_map, Option.map_eq_some_iff] at ht hp
  obtain ⟨x, hx, rfl⟩ := ht
  obtain ⟨y, hy, rfl⟩ := hp
  rw [hx] at hy
  cases hy
  exact ⟨rfl, rfl, rfl, (h.all x.l (List.mem_map.2 ⟨x, List.mem_of_getElem? hx, rfl⟩)).sl⟩
theorem ct_snoc {cs : List CT} {t : TearC} {p : PTear} {a : Option Addr} {c : Nat} (hn : t.name = p.name) (hk : t.keep = p.keep) : cs.map CT.t ++ [(⟨t.name, t.keep, ⟨a, p.junk.length, c⟩⟩ : TearC)] = (cs ++ [(⟨p, a, c⟩ : CT)]).map CT.t := by rw [List.map_append]; simp [CT.t, hn, hk]
theorem ct_snocl {cs : List CT} {p : PTear} {a : Option Addr} {c : Nat} : cs.map CT.l ++ [(⟨p.name, a, c, p.junk⟩ : LeftS)] = (cs ++ [(⟨p, a, c⟩ : CT)]).map CT.l := by rw [List.map_append]; simp [CT.l]
theorem ct_snocp {cs : List CT} {pts : List PTear} {i : Nat} {p : PTear} {a : Option Addr} {c : Nat} (h : cs.map CT.p = pts.take i) (hp : pts[i]? = some p) : (cs ++ [(⟨p, a, c⟩ : CT)]).map CT.p = pts.take (i + 1) := by rw [List.map_append, h, take_snoc hp]; rfl

def begunL (room : Int) (ps : List DoP) : List PF := runL room [] (ps.take 41)

def awL1 : List PF := [⟨⟨#[97]⟩, [7, 8], 0⟩]
def awL2 : List PF := [⟨⟨#[97]⟩, [7, 8], 2⟩]
theorem aw_e1 : appE 9 [] ⟨#[97]⟩ [7, 8] = 0 := by decide
theorem aw_l1 : appL 9 [] ⟨#[97]⟩ [7, 8] = awL1 := rfl
theorem aw_e2 : lookE awL1 ⟨#[97]⟩ = 0 := by decide
theorem aw_l2 : syncL awL1 ⟨#[97]⟩ = awL2 := rfl
theorem aw_read {w : World} {d : Nat} {F : Nat → Prop} (h : DiskAt w d F 9 awL2) : Calls Try.prog 12 #[.pointer (some ⟨d, 0, none⟩), .string ⟨#[97]⟩] w
    (Ret fun v w' => ∃ a' c', v = .tuple #[.slice a' ([7, 8] : List UInt8).length c', .int .i64 0] ∧ OwnSl w' 5 a' c' ([7, 8] : List UInt8) ∧ (∀ b, own a' b → w.heap.size ≤ b) ∧ Ext w w') := readD h ⟨#[97]⟩ (by decide)
theorem aw_used {w : World} {d : Nat} {F : Nat → Prop} (h : DiskAt w d F 9 awL2) : Calls Try.prog 26 #[.pointer (some ⟨d, 0, none⟩)] w (Ret fun v w' => v = .int .i64 2 ∧ Ext w w') := usedD h

theorem ty32 : Ty Try.prog 32 1 24 (.slice (none) (0) (0)) false := ty_of (by kernel_rfl) (by kernel_rfl)
theorem ty34 : Ty Try.prog 34 5 88 (.agg #[.int .i64 (0), .string (⟨#[]⟩), .string (⟨#[]⟩), .slice (none) (0) (0), .slice (none) (0) (0)]) true := ty_of (by kernel_rfl) (by kernel_rfl)
theorem en12 : Enters Try.prog 12 := enters_of Try.func12 rfl (by kernel_rfl)
theorem en14 : Enters Try.prog 14 := enters_of Try.func14 rfl (by kernel_rfl)
theorem en19 : Enters Try.prog 19 := enters_of Try.func19 rfl (by kernel_rfl)
theorem en20 : Enters Try.prog 20 := enters_of Try.func20 rfl (by kernel_rfl)
theorem en21 : Enters Try.prog 21 := enters_of Try.func21 rfl (by kernel_rfl)
theorem en22 : Enters Try.prog 22 := enters_of Try.func22 rfl (by kernel_rfl)
theorem en23 : Enters Try.prog 23 := enters_of Try.func23 rfl (by kernel_rfl)
theorem en24 : Enters Try.prog 24 := enters_of Try.func24 rfl (by kernel_rfl)
theorem en25 : Enters Try.prog 25 := enters_of Try.func25 rfl (by kernel_rfl)
theorem en28 : Enters Try.prog 28 := enters_of Try.func28 rfl (by kernel_rfl)

set_option maxRecDepth 100000 in
set_option maxHeartbeats 4000000 in
theorem tears_ (a : Option Addr) (ts : List TearC) (c : Nat) (pts : List PTear) (w : World) (hs : SlOf w a ts) (ht : TearsAt w ts pts) (hl : ts.length ≤ 4294967295) :
    Calls Try.prog 24 #[.slice (a) (ts.length) (c)] w (Ret (fun v w' => ∃ a' c', ∃ cs : List CT, v = .slice a' (cs.map CT.t).length c' ∧ OwnSl w' 70 a' c' (cs.map CT.t) ∧ LeftAt w' (cs.map CT.l) ∧ cs.map CT.p = pts ∧ (∀ q, own a' q → w.heap.size ≤ q) ∧ (∀ q, leftS (cs.map CT.l) q → w.heap.size ≤ q) ∧ (∀ q, leftS (cs.map CT.l) q → ¬ own a' q) ∧ Ext w w')) := by
  refine calls_run (n := 22) Try.func24 rfl rfl rfl ?_
  refine Run.seq ?_
  refine Run.region ?_
  refine RL.val (x_assignSl rfl) ?_
  refine RL.nil ?_
  refine Run.seq ?_
  refine Run.region ?_
  refine RL.val (x_assignSl rfl) ?_
  refine RL.nil ?_
  have hL : LeftAt w (([] : List CT).map CT.l) := LeftAt.nil w
  refine Run.seq ?_
  refine Run.seq ?_
  refine Run.region ?_
  refine RL.val (x_moveSl rfl) ?_
  refine RL.val (x_lenSl Try.underlying32 rfl) ?_
  refine RL.val (x_moveI rfl) ?_
  refine RL.nil ?_
  refine Run.block ?_
  refine Run.loop (ι := Nat) (fun i ρ' w' => ∃ cs : List CT, ∃ ao : Option Addr, ∃ co : Nat, Holds ρ' [(3, .slice (ao) ((cs.map CT.t).length) (co)), (6, .slice (a) (ts.length) (c)), (7, .int .i64 (((ts.length : Nat) : Int))), (8, .int .i64 (((i : Nat) : Int)))] ∧ Ext w w' ∧ (LeftAt w' (cs.map CT.l)) ∧ (OwnSl w' 70 ao co (cs.map CT.t)) ∧ (∀ q_, leftS (cs.map CT.l) q_ → ¬ own ao q_) ∧ (∀ q_, leftS (cs.map CT.l) q_ → w.heap.size ≤ q_) ∧ (∀ q_, own ao q_ → w.heap.size ≤ q_) ∧ (i ≤ ts.length) ∧ (cs.map CT.p = pts.take i)) (fun i => ts.length - i) 0 ?_ ?_
  · have ho_8 := OwnSl.nil (α := TearC) w 70
    refine ⟨[], _, _, ⟨rfl, rfl, rfl, rfl, trivial⟩, (Keeps.refl _ w), hL, ho_8, (fun q_ h1 h2 => (fun q_ h1 _ => own_none q_ h1) q_ h2 h1), (fun q_ ⟨_, h_, _⟩ => absurd h_ (by simp)), (fun q_ h1 => absurd h1 (own_none q_)), ?_, ?_⟩
    · omega
    · rfl
  clear hL
  rintro i ρ_9 w_1 ⟨cs, ao, co, hH_2, K0, hO_3, ho_4, pr_5, pr_6, pr_7, hi, hcs⟩ ih1
  obtain ⟨ρ₀, rfl⟩ := hH_2.ex
  clear hH_2
  refine Run.seq ?_
  refine Run.region ?_
  refine RL.val (x_ltI rfl rfl) ?_
  refine RL.nil ?_
  refine Run.seq ?_
  refine Run.cond rfl (fun hc9 => ?_) (fun hc9 => ?_)
  · try simp only [br] at hc9
    refine Run.skip ?_
    refine Run.seq ?_
    refine Run.block ?_
    refine Run.seq ?_
    refine Run.region ?_
    obtain ⟨b_10, o_11, t, hx, ha_12, hc_13⟩ := hs.el (i := i) (by first | omega | (simp only [List.length_set]; omega))
    have hc_13_lt := hc_13.lt
    replace hc_13 := hc_13.ext K0
    refine RL.val (x_idxN Try.underlying32 ty70 rfl rfl ha_12 (by first | omega | (simp only [List.length_set]; omega))) ?_
    refine RL.val (x_ldV (v := .agg #[.string ((t).name), .int .i64 ((t).keep), .slice ((t).junk.a) ((t).junk.len) ((t).junk.cap)]) (y := t) ty70 rfl hc_13 rfl) ?_
    refine RL.st rfl <| St1.alloc ty70 ?_
    intro b_16 w_17 hl_20 hb_19 K_18
    replace hb_19 : Blk w_17 b_16 [.string (⟨#[]⟩), .int .i64 (0), .slice (none) (0) (0)] 70 := hb_19
    have ne_21 : b_10 < b_16 := Nat.lt_of_lt_of_le hc_13.lt hl_20
    have pr_22 : ¬ leftS (cs.map CT.l) b_16 := fun h => absurd (hO_3.own_lt _ h) (by omega)
    have pr_23 : ¬ own ao b_16 := fun h => absurd (ho_4.own_lt _ h) (by omega)
    have : w.heap.size ≤ b_16 := Nat.le_trans K0.size hl_20
    clear hl_20
    replace hO_3 := hO_3.ext K_18
    replace ho_4 := ho_4.ext K_18
    replace hc_13 := hc_13.ext K_18
    replace K0 := K0.ext K_18
    refine RL.st rfl <| St1.store (v := .agg #[.string ((t).name), .int .i64 ((t).keep), .slice ((t).junk.a) ((t).junk.len) ((t).junk.cap)]) ty70 rfl rfl rfl (by simp [Value.cells, Value.oneCell']) hb_19 (by simp) ?_
    intro w_24 hb_19_ K_25
    have hb_19' : Blk w_24 b_16 [.string ((t).name), .int .i64 ((t).keep), .slice ((t).junk.a) ((t).junk.len) ((t).junk.cap)] 70 := hb_19_
    clear hb_19_
    replace hO_3 := hO_3.keepO K_25 (fun q_ hq_ eq_ => pr_22 (by simp only [one] at eq_; rw [← eq_]; exact hq_))
    replace ho_4 := ho_4.keepO K_25 (fun q_ hq_ eq_ => pr_23 (by simp only [one] at eq_; rw [← eq_]; exact hq_))
    replace hc_13 := hc_13.keep K_25 (by simp only [one]; omega)
    replace K0 := K0.new K_25 (fun x hx => by simp only [one] at hx; omega)
    replace hb_19 := hb_19'
    clear hb_19'
    refine RL.nil ?_
    obtain ⟨p, hp⟩ : ∃ p, pts[i]? = some p := ⟨_, List.getElem?_eq_getElem (by rw [← ht.len]; omega)⟩
    obtain ⟨htn, htk, htl, htj⟩ := ht.all i t p hx hp
    obtain ⟨hz1, hz2, hz3, hz4⟩ := ht.size p (List.mem_of_getElem? hp)
    have hcsl : cs.length = i := by have := congrArg List.length hcs; rw [List.length_map, List.length_take, ← ht.len] at this; omega
    refine Run.seq ?_
    refine Run.region ?_
    refine RL.val (x_fld (o' := 2) Try.underlying70 rfl ty26 rfl rfl rfl) ?_
    refine RL.val (litSl (m' := p.junk.length) (x_ld (v := .slice ((t).junk.a) ((t).junk.len) ((t).junk.cap)) ty26 rfl rfl (hb_19.cl.field (i := 2) rfl)) htl) ?_
    refine RL.st rfl <| St1.call (vals := [.slice (t.junk.a) (p.junk.length) (t.junk.cap)]) en32 rfl (clone_byte _ _ _ _ (htj.ext K0) (by omega)) ?_
    rintro _ w_28 ⟨a_26, c_27, rfl, ho_29, hg_30, K_31⟩
    have pr_32 : ∀ q_, own a_26 q_ → ¬ leftS (cs.map CT.l) q_ := apartNew hg_30 hO_3.own_lt
    have pr_33 : ∀ q_, own a_26 q_ → ¬ own ao q_ := apartNew hg_30 ho_4.own_lt
    have pr_34 : ¬ own a_26 b_16 := notNew hg_30 hb_19.lt
    have pg_35 : ∀ q_, own a_26 q_ → w.heap.size ≤ q_ := fun q_ h => Nat.le_trans K0.size (hg_30 q_ h)
    clear hg_30
    replace hO_3 := hO_3.ext K_31
    replace ho_4 := ho_4.ext K_31
    replace hb_19 := hb_19.ext K_31
    replace K0 := K0.ext K_31
    refine RL.val (x_fld (o' := 2) Try.underlying70 rfl ty26 rfl rfl rfl) ?_
    refine RL.st rfl <| St1.store (v := .slice (a_26) (p.junk.length) (c_27)) ty26 rfl rfl rfl (by simp [Value.cells, Value.oneCell']) hb_19 (by simp) ?_
    intro w_36 hb_19_ K_37
    have hb_19' : Blk w_36 b_16 [.string ((t).name), .int .i64 ((t).keep), .slice (a_26) (p.junk.length) (c_27)] 70 := hb_19_
    clear hb_19_
    replace hO_3 := hO_3.keepO K_37 (fun q_ hq_ eq_ => pr_22 (by simp only [one] at eq_; rw [← eq_]; exact hq_))
    replace ho_4 := ho_4.keepO K_37 (fun q_ hq_ eq_ => pr_23 (by simp only [one] at eq_; rw [← eq_]; exact hq_))
    replace ho_29 := ho_29.keepO K_37 (fun q_ hq_ eq_ => pr_34 (by simp only [one] at eq_; rw [← eq_]; exact hq_))
    replace K0 := K0.new K_37 (fun x hx => by simp only [one] at hx; omega)
    replace hb_19 := hb_19'
    clear hb_19'
    refine RL.nil ?_
    refine Run.region ?_
    refine RL.val (x_moveSl rfl) ?_
    refine RL.val (x_lds (cs := #[.string ((t).name), .int .i64 ((t).keep), .slice (a_26) (p.junk.length) (c_27)]) ty70 rfl rfl (hb_19.cl.drop 0 3)) ?_
    refine RL.st rfl <| St1.buildSlice ([(⟨(t).name, (t).keep, ⟨a_26, p.junk.length, c_27⟩⟩ : TearC)] : List TearC) Try.underlying32 ty70 rfl rfl (by first | decide | (simp [Enc.size])) ?_
    intro b_38 w_39 hl_42 ho_41 K_40
    have pr_43 : ∀ q_, own (some ⟨b_38, 0, none⟩) q_ → ¬ leftS (cs.map CT.l) q_ := apartNew (ge_new hl_42) hO_3.own_lt
    have pr_44 : ∀ q_, own (some ⟨b_38, 0, none⟩) q_ → ¬ own ao q_ := apartNew (ge_new hl_42) ho_4.own_lt
    have pr_45 : ¬ own (some ⟨b_38, 0, none⟩) b_16 := notNew (ge_new hl_42) hb_19.lt
    have pr_46 : ∀ q_, own (some ⟨b_38, 0, none⟩) q_ → ¬ own a_26 q_ := apartNew (ge_new hl_42) ho_29.own_lt
    have pg_47 : ∀ q_, own (some ⟨b_38, 0, none⟩) q_ → w.heap.size ≤ q_ := fun q_ h => Nat.le_trans K0.size ((ge_new hl_42) q_ h)
    clear hl_42
    replace hO_3 := hO_3.ext K_40
    replace ho_4 := ho_4.ext K_40
    replace hb_19 := hb_19.ext K_40
    replace ho_29 := ho_29.ext K_40
    replace K0 := K0.ext K_40
    refine RL.st rfl <| St1.append (xs := cs.map CT.t) (ys := ([(⟨(t).name, (t).keep, ⟨a_26, p.junk.length, c_27⟩⟩ : TearC)] : List TearC)) Try.underlying32 ty70 rfl rfl rfl ho_4 ho_41.sl (by rw [List.length_map, hcsl]; simp only [lr]; omega) (by decide) ?_
    intro a_48 c_49 w_50 ho_51 K_52 hm_53 hrm_54
    have pr_55 : ∀ q_, own a_48 q_ → ¬ leftS (cs.map CT.l) q_ := hm_53.apart (fun q_ h1 h2 => pr_5 q_ h2 h1) hO_3.own_lt
    have pr_56 : ¬ own a_48 b_16 := hm_53.not pr_23 hb_19.lt
    have pr_57 : ∀ q_, own a_48 q_ → ¬ own a_26 q_ := hm_53.apart (fun q_ h1 h2 => pr_33 q_ h2 h1) ho_29.own_lt
    have pr_58 : ∀ q_, own a_48 q_ → ¬ own (some ⟨b_38, 0, none⟩) q_ := hm_53.apart (fun q_ h1 h2 => pr_44 q_ h2 h1) ho_41.own_lt
    have pg_59 : ∀ q_, own a_48 q_ → w.heap.size ≤ q_ := hm_53.ge pr_7 K0.size
    replace hO_3 := hO_3.keepO K_52 pr_5
    replace hb_19 := hb_19.keep K_52 pr_23
    replace ho_29 := ho_29.keepO K_52 pr_33
    replace ho_41 := ho_41.keepO K_52 pr_44
    replace K0 := K0.new K_52 pr_7
    clear hm_53
    clear hrm_54
    refine RL.val (x_assignSl rfl) ?_
    refine RL.nil ?_
    rw [ct_snoc htn htk] at ho_51 ⊢
    have hL' : LeftAt w_50 ((cs ++ [(⟨p, a_26, c_27⟩ : CT)]).map CT.l) := by rw [← ct_snocl]; exact LeftAt.snoc (x := ⟨p.name, a_26, c_27, p.junk⟩) hO_3 ho_29 (fun q_ h1 h2 => (fun q_ h1 h2 => pr_32 q_ h2 h1) q_ h1 h2)
    have pr_60 : ¬ leftS ((cs ++ [(⟨p, a_26, c_27⟩ : CT)]).map CT.l) b_16 := fun x_ => ((fun q_ h_ => left_caseN q_ (by rw [← ct_snocl] at h_; exact h_)) _ x_).elim pr_34 (fun y_ => pr_22 y_)
    have pr_61 : ∀ q_, leftS ((cs ++ [(⟨p, a_26, c_27⟩ : CT)]).map CT.l) q_ → ¬ own (some ⟨b_38, 0, none⟩) q_ := fun q_ x_ z_ => ((fun q_ h_ => left_caseN q_ (by rw [← ct_snocl] at h_; exact h_)) _ x_).elim (fun y_ => (fun q_ h1 h2 => pr_46 q_ h2 h1) q_ y_ z_) (fun y_ => (fun y_ => (fun q_ h1 h2 => pr_43 q_ h2 h1) q_ y_ z_) y_)
    have pr_62 : ∀ q_, leftS ((cs ++ [(⟨p, a_26, c_27⟩ : CT)]).map CT.l) q_ → ¬ own a_48 q_ := fun q_ x_ z_ => ((fun q_ h_ => left_caseN q_ (by rw [← ct_snocl] at h_; exact h_)) _ x_).elim (fun y_ => (fun q_ h1 h2 => pr_57 q_ h2 h1) q_ y_ z_) (fun y_ => (fun y_ => (fun q_ h1 h2 => pr_55 q_ h2 h1) q_ y_ z_) y_)
    have pg_63 : ∀ q_, leftS ((cs ++ [(⟨p, a_26, c_27⟩ : CT)]).map CT.l) q_ → w.heap.size ≤ q_ := fun q_ x_ => ((fun q_ h_ => left_caseN q_ (by rw [← ct_snocl] at h_; exact h_)) _ x_).elim (fun y_ => pg_35 q_ y_) (fun y_ => (fun y_ => pr_6 q_ y_) y_)
    refine Run.inBlock ?_
    refine Run.region ?_
    refine RL.val (litI (c := ((i + 1 : Nat) : Int)) (x_add rfl rfl (by omega) (by omega)) rfl) ?_
    refine RL.val (x_moveI rfl) ?_
    refine RL.nil ?_
    refine ih1 (i + 1) _ _ ?_ (by omega)
    refine ⟨(cs ++ [(⟨p, a_26, c_27⟩ : CT)]), _, _, ⟨rfl, rfl, rfl, rfl, trivial⟩, K0, hL', ho_51, pr_62, pg_63, pg_59, ?_, ?_⟩
    · omega
    · exact ct_snocp hcs hp
  · try simp only [br] at hc9
    refine Run.exit rfl ?_
    refine Run.seq ?_
    refine Run.region ?_
    refine RL.val (x_moveSl rfl) ?_
    refine RL.val (x_assignSl rfl) ?_
    refine RL.nil ?_
    refine Run.ret1 (v := .slice (ao) ((cs.map CT.t).length) (co)) Try.func24 rfl rfl ?_
    have hil : i = pts.length := by rw [← ht.len]; omega
    rw [hil, List.take_length] at hcs
    exact ⟨_, rfl, ao, co, cs, rfl, ho_4, hO_3, hcs, pr_7, pr_6, pr_5, K0⟩

set_option maxRecDepth 100000 in
set_option maxHeartbeats 4000000 in
theorem call_ (d : Nat) (F : Nat → Prop) (room : Int) (pl : List PF) (o : DoC) (b : List UInt8) (pts : List PTear) (w : World) (hD : DiskAt w d F room pl) (ho : DoAt w o b pts) :
    Calls Try.prog 14 #[.pointer (some ⟨d, 0, none⟩), .agg #[.int .i64 ((o).op), .string ((o).name), .string ((o).other), .slice ((o).bytes.a) ((o).bytes.len) ((o).bytes.cap), .slice ((o).tears.a) ((o).tears.len) ((o).tears.cap)]] w (Ret (fun v w' => v = .tuple #[] ∧ ∃ F', DiskAt w' d F' room (stepL room pl ⟨o.op, o.name, o.other, b, pts⟩) ∧ MovedS w F F' ∧ Keeps F w w')) := by
  obtain ⟨hbl, hbs, ⟨ts, htl, hts, htt⟩, hz1, hz2, hz3, hz4⟩ := ho
  have htln := htt.len
  refine calls_run (n := 48) Try.func14 rfl rfl rfl ?_
  refine Run.seq ?_
  refine Run.region ?_
  refine RL.st rfl <| St1.box (v := .agg #[.int .i64 ((o).op), .string ((o).name), .string ((o).other), .slice ((o).bytes.a) ((o).bytes.len) ((o).bytes.cap), .slice ((o).tears.a) ((o).tears.len) ((o).tears.cap)]) rfl ?_
  intro b_1 w_2 hl_5 hb_4 K_3
  replace hb_4 : Blk w_2 b_1 [.int .i64 ((o).op), .string ((o).name), .string ((o).other), .slice ((o).bytes.a) ((o).bytes.len) ((o).bytes.cap), .slice ((o).tears.a) ((o).tears.len) ((o).tears.cap)] 34 := hb_4
  have pr_6 : ¬ F b_1 := fun h => absurd (hD.own_lt _ h) (by omega)
  have : w.heap.size ≤ b_1 := hl_5
  clear hl_5
  replace hD := hD.ext K_3
  replace hbs := hbs.ext K_3
  replace hts := hts.ext K_3
  replace htt := htt.ext K_3
  have K0 := (K_3 : Ext w _).to (S := F)
  refine RL.nil ?_
  refine Run.seq ?_
  refine Run.region ?_
  refine RL.val (x_fld (o' := 0) Try.underlying34 rfl ty3 rfl rfl rfl) ?_
  refine RL.val (x_ld (v := .int .i64 ((o).op)) ty3 rfl rfl (hb_4.cl.field (i := 0) rfl)) ?_
  refine RL.val (x_convI rfl ⟨_, Try.underlying3⟩ Try.underlying35) ?_
  refine RL.val (litI (c := opc o.op) (x_rem rfl rfl (by decide)) rfl) ?_
  refine RL.nil ?_
  refine Run.block ?_
  refine Run.seq ?_
  refine Run.seq ?_
  refine Run.region ?_
  refine RL.val (x_eqI rfl rfl) ?_
  refine RL.val (x_assignB rfl) ?_
  refine RL.nil ?_
  refine Run.cond rfl (fun hc10 => ?_) (fun hc10 => ?_)
  · try simp only [br] at hc10
    refine Run.skip ?_
    refine Run.cond rfl (fun hc10 => ?_) (fun hc10 => ?_)
    · try simp only [br] at hc10
      refine Run.drawT [] (m := 7) (by kernel_rfl) rfl ?_
      intro w_7 K_8
      replace hD := hD.ext K_8
      replace hbs := hbs.ext K_8
      replace hts := hts.ext K_8
      replace htt := htt.ext K_8
      replace hb_4 := hb_4.ext K_8
      replace K0 := K0.ext K_8
      refine ⟨fun w' => Blk w' b_1 [.int .i64 ((o).op), .string ((o).name), .string ((o).other), .slice ((o).bytes.a) ((o).bytes.len) ((o).bytes.cap), .slice ((o).tears.a) ((o).tears.len) ((o).tears.cap)] 34 ∧ True, ?_⟩
      refine RT.takeP (v := .pointer (some ⟨d, 0, none⟩)) 0 rfl (by kernel_rfl) (.inr ⟨hb_4, trivial⟩) (fun _ => (x_moveP rfl)) ?_
      refine RT.takeP (v := .pointer (some ⟨b_1, 1, none⟩)) 1 rfl (by kernel_rfl) (.inr ⟨hb_4, trivial⟩) (fun _ => (x_fld (o' := 1) Try.underlying34 rfl ty9 rfl rfl rfl)) ?_
      refine RT.take (v := .string ((o).name)) 2 rfl (by kernel_rfl) ⟨hb_4, trivial⟩ (by rintro _ ⟨hb_4, -⟩; exact (x_ld (v := .string ((o).name)) ty9 rfl rfl (hb_4.cl.field (i := 1) rfl))) ?_
      refine RT.takeP (v := .pointer (some ⟨b_1, 3, none⟩)) 3 rfl (by kernel_rfl) (.inr ⟨hb_4, trivial⟩) (fun _ => (x_fld (o' := 3) Try.underlying34 rfl ty26 rfl rfl rfl)) ?_
      refine RT.take (v := .slice (o.bytes.a) (b.length) (o.bytes.cap)) 4 rfl (by kernel_rfl) ⟨hb_4, trivial⟩ (by rintro _ ⟨hb_4, -⟩; exact (litSl (m' := b.length) (x_ld (v := .slice ((o).bytes.a) ((o).bytes.len) ((o).bytes.cap)) ty26 rfl rfl (hb_4.cl.field (i := 3) rfl)) hbl)) ?_
      refine RT.st 5 rfl (by kernel_rfl) rfl <| St1.call (vals := [.slice (o.bytes.a) (b.length) (o.bytes.cap)]) en32 rfl (clone_byte _ _ _ _ hbs (by omega)) ?_
      rintro _ w_11 ⟨a_9, c_10, rfl, ho_12, hg_13, K_14⟩
      have pr_15 : ∀ q_, own a_9 q_ → ¬ F q_ := apartNew hg_13 hD.own_lt
      have pr_16 : ¬ own a_9 b_1 := notNew hg_13 hb_4.lt
      have pg_17 : ∀ q_, own a_9 q_ → q_ < w.heap.size → F q_ := fun q_ h hlt => absurd (Nat.le_trans K0.size (hg_13 q_ h)) (by omega)
      have pw_18 : ∀ q_, own a_9 q_ → w.heap.size ≤ q_ := fun q_ h => Nat.le_trans K0.size (hg_13 q_ h)
      clear hg_13
      replace hD := hD.ext K_14
      replace hbs := hbs.ext K_14
      replace hts := hts.ext K_14
      replace htt := htt.ext K_14
      replace hb_4 := hb_4.ext K_14
      replace K0 := K0.ext K_14
      refine ⟨.inr ⟨hb_4, trivial⟩, ?_⟩
      refine RT.st 6 rfl (by kernel_rfl) rfl <| St1.call (vals := [.pointer (some ⟨d, 0, none⟩), .string ((o).name), .slice (a_9) (b.length) (c_10)]) en19 rfl (appendD hD ((o).name) _ _ _ (by first | omega | decide) ho_12.sl (fun x_ hx_ => pr_15 _ ⟨x_, hx_, rfl⟩) (by first | omega | decide)) ?_
      rintro _ w_20 ⟨F_19, rfl, hD_21, hm_22, K_23⟩
      have pr_24 : ¬ F_19 b_1 := hm_22.not pr_6 hb_4.lt
      have pr_25 : ∀ q_, F_19 q_ → ¬ own a_9 q_ := hm_22.apart (fun q_ h1 h2 => pr_15 q_ h2 h1) ho_12.own_lt
      have pg_26 : ∀ q_, F_19 q_ → q_ < w.heap.size → F q_ := hm_22.inS (fun q_ h_ _ => h_) K0.size
      replace hb_4 := hb_4.keep K_23 pr_6
      replace ho_12 := ho_12.keepO K_23 pr_15
      replace K0 := K0.trans K_23 (fun x hlt hx => (fun q_ h_ _ => h_) x hx hlt)
      clear hm_22
      refine ⟨.inr ⟨hb_4, trivial⟩, ?_⟩
      refine RT.done (by kernel_rfl) ?_
      refine Run.inBlock ?_
      refine Run.fin0 Try.func14 rfl ?_
      have he : stepL room pl ⟨o.op, o.name, o.other, b, pts⟩ = appL room pl ((o).name) b := by
        unfold stepL
        simp only
        repeat' split
        all_goals first | rfl | (exfalso; omega)
      exact ⟨_, rfl, rfl, F_19, by rw [he]; exact hD_21, movedS_of pg_26, K0⟩
    · try simp only [br] at hc10
      refine Run.seq ?_
      refine Run.region ?_
      refine RL.val (x_eqI rfl rfl) ?_
      refine RL.val (x_assignB rfl) ?_
      refine RL.nil ?_
      refine Run.cond rfl (fun hc21 => ?_) (fun hc21 => ?_)
      · try simp only [br] at hc21
        refine Run.region ?_
        refine RL.val (x_moveP rfl) ?_
        refine RL.val (x_fld (o' := 1) Try.underlying34 rfl ty9 rfl rfl rfl) ?_
        refine RL.val (x_ld (v := .string ((o).name)) ty9 rfl rfl (hb_4.cl.field (i := 1) rfl)) ?_
        refine RL.st rfl <| St1.call (vals := [.pointer (some ⟨d, 0, none⟩), .string ((o).name)]) en20 rfl (syncD hD ((o).name) (by first | omega | decide)) ?_
        rintro _ w_28 ⟨F_27, rfl, hD_29, hm_30, K_31⟩
        have pr_32 : ¬ F_27 b_1 := hm_30.not pr_6 hb_4.lt
        have pg_33 : ∀ q_, F_27 q_ → q_ < w.heap.size → F q_ := hm_30.inS (fun q_ h_ _ => h_) K0.size
        replace hb_4 := hb_4.keep K_31 pr_6
        replace K0 := K0.trans K_31 (fun x hlt hx => (fun q_ h_ _ => h_) x hx hlt)
        clear hm_30
        refine RL.nil ?_
        refine Run.inBlock ?_
        refine Run.fin0 Try.func14 rfl ?_
        have he : stepL room pl ⟨o.op, o.name, o.other, b, pts⟩ = syncL pl ((o).name) := by
          unfold stepL
          simp only
          repeat' split
          all_goals first | rfl | (exfalso; omega)
        exact ⟨_, rfl, rfl, F_27, by rw [he]; exact hD_29, movedS_of pg_33, K0⟩
      · try simp only [br] at hc21
        refine Run.seq ?_
        refine Run.region ?_
        refine RL.val (x_eqI rfl rfl) ?_
        refine RL.val (x_assignB rfl) ?_
        refine RL.nil ?_
        refine Run.cond rfl (fun hc27 => ?_) (fun hc27 => ?_)
        · try simp only [br] at hc27
          refine Run.region ?_
          refine RL.val (x_moveP rfl) ?_
          refine RL.val (x_fld (o' := 1) Try.underlying34 rfl ty9 rfl rfl rfl) ?_
          refine RL.val (x_ld (v := .string ((o).name)) ty9 rfl rfl (hb_4.cl.field (i := 1) rfl)) ?_
          refine RL.val (x_fld (o' := 2) Try.underlying34 rfl ty9 rfl rfl rfl) ?_
          refine RL.val (x_ld (v := .string ((o).other)) ty9 rfl rfl (hb_4.cl.field (i := 2) rfl)) ?_
          refine RL.st rfl <| St1.call (vals := [.pointer (some ⟨d, 0, none⟩), .string ((o).name), .string ((o).other)]) en21 rfl (renameD hD ((o).name) ((o).other) (by first | omega | decide) (by first | omega | decide)) ?_
          rintro _ w_35 ⟨F_34, rfl, hD_36, hm_37, K_38⟩
          have pr_39 : ¬ F_34 b_1 := hm_37.not pr_6 hb_4.lt
          have pg_40 : ∀ q_, F_34 q_ → q_ < w.heap.size → F q_ := hm_37.inS (fun q_ h_ _ => h_) K0.size
          replace hb_4 := hb_4.keep K_38 pr_6
          replace K0 := K0.trans K_38 (fun x hlt hx => (fun q_ h_ _ => h_) x hx hlt)
          clear hm_37
          refine RL.nil ?_
          refine Run.inBlock ?_
          refine Run.fin0 Try.func14 rfl ?_
          have he : stepL room pl ⟨o.op, o.name, o.other, b, pts⟩ = renL pl ((o).name) ((o).other) := by
            unfold stepL
            simp only
            repeat' split
            all_goals first | rfl | (exfalso; omega)
          exact ⟨_, rfl, rfl, F_34, by rw [he]; exact hD_36, movedS_of pg_40, K0⟩
        · try simp only [br] at hc27
          refine Run.seq ?_
          refine Run.region ?_
          refine RL.val (x_eqI rfl rfl) ?_
          refine RL.val (x_assignB rfl) ?_
          refine RL.nil ?_
          refine Run.cond rfl (fun hc35 => ?_) (fun hc35 => ?_)
          · try simp only [br] at hc35
            refine Run.region ?_
            refine RL.val (x_moveP rfl) ?_
            refine RL.val (x_fld (o' := 1) Try.underlying34 rfl ty9 rfl rfl rfl) ?_
            refine RL.val (x_ld (v := .string ((o).name)) ty9 rfl rfl (hb_4.cl.field (i := 1) rfl)) ?_
            refine RL.st rfl <| St1.call (vals := [.pointer (some ⟨d, 0, none⟩), .string ((o).name)]) en22 rfl (removeD hD ((o).name) (by first | omega | decide)) ?_
            rintro _ w_42 ⟨F_41, rfl, hD_43, hm_44, K_45⟩
            have pr_46 : ¬ F_41 b_1 := hm_44.not pr_6 hb_4.lt
            have pg_47 : ∀ q_, F_41 q_ → q_ < w.heap.size → F q_ := hm_44.inS (fun q_ h_ _ => h_) K0.size
            replace hb_4 := hb_4.keep K_45 pr_6
            replace K0 := K0.trans K_45 (fun x hlt hx => (fun q_ h_ _ => h_) x hx hlt)
            clear hm_44
            refine RL.nil ?_
            refine Run.inBlock ?_
            refine Run.fin0 Try.func14 rfl ?_
            have he : stepL room pl ⟨o.op, o.name, o.other, b, pts⟩ = remL pl ((o).name) := by
              unfold stepL
              simp only
              repeat' split
              all_goals first | rfl | (exfalso; omega)
            exact ⟨_, rfl, rfl, F_41, by rw [he]; exact hD_43, movedS_of pg_47, K0⟩
          · try simp only [br] at hc35
            refine Run.seq ?_
            refine Run.region ?_
            refine RL.val (x_eqI rfl rfl) ?_
            refine RL.val (x_assignB rfl) ?_
            refine RL.nil ?_
            refine Run.cond rfl (fun hc41 => ?_) (fun hc41 => ?_)
            · try simp only [br] at hc41
              refine Run.region ?_
              refine RL.val (x_moveP rfl) ?_
              refine RL.val (x_fld (o' := 4) Try.underlying34 rfl ty32 rfl rfl rfl) ?_
              refine RL.val (litSl (m' := ts.length) (x_ld (v := .slice ((o).tears.a) ((o).tears.len) ((o).tears.cap)) ty32 rfl rfl (hb_4.cl.field (i := 4) rfl)) htl) ?_
              refine RL.st rfl <| St1.call (vals := [.slice (o.tears.a) (ts.length) (o.tears.cap)]) en24 rfl (tears_ _ ts _ pts _ hts htt (by omega)) ?_
              rintro _ w_51 ⟨a_48, c_49, cs_50, rfl, ho_52, hL_53, hcp_54, hg_55, hg_56, hpr_57, K_58⟩
              have pr_59 : ∀ q_, own a_48 q_ → ¬ F q_ := apartNew hg_55 hD.own_lt
              have pr_60 : ¬ own a_48 b_1 := notNew hg_55 hb_4.lt
              have pg_61 : ∀ q_, own a_48 q_ → q_ < w.heap.size → F q_ := fun q_ h hlt => absurd (Nat.le_trans K0.size (hg_55 q_ h)) (by omega)
              have pw_62 : ∀ q_, own a_48 q_ → w.heap.size ≤ q_ := fun q_ h => Nat.le_trans K0.size (hg_55 q_ h)
              have pr_63 : ∀ q_, leftS (cs_50.map CT.l) q_ → ¬ F q_ := apartNew hg_56 hD.own_lt
              have pr_64 : ¬ leftS (cs_50.map CT.l) b_1 := notNew hg_56 hb_4.lt
              have pg_65 : ∀ q_, leftS (cs_50.map CT.l) q_ → q_ < w.heap.size → F q_ := fun q_ h hlt => absurd (Nat.le_trans K0.size (hg_56 q_ h)) (by omega)
              have pw_66 : ∀ q_, leftS (cs_50.map CT.l) q_ → w.heap.size ≤ q_ := fun q_ h => Nat.le_trans K0.size (hg_56 q_ h)
              clear hg_55 hg_56
              replace hD := hD.ext K_58
              replace hbs := hbs.ext K_58
              replace hts := hts.ext K_58
              replace htt := htt.ext K_58
              replace hb_4 := hb_4.ext K_58
              replace K0 := K0.ext K_58
              have hcl_cs_50 : (cs_50.map CT.t).length = pts.length := by rw [← hcp_54]; simp
              refine RL.st rfl <| St1.call (vals := [.pointer (some ⟨d, 0, none⟩), .slice (a_48) ((cs_50.map CT.t).length) (c_49)]) en23 rfl (crashD hD _ _ _ pts ho_52.sl (tearsAt_of hL_53 hcp_54 htt.size) (by first | omega | decide)) ?_
              rintro _ w_68 ⟨F_67, rfl, hD_69, hm_70, K_71⟩
              have pr_72 : ¬ F_67 b_1 := hm_70.not pr_6 hb_4.lt
              have pr_73 : ∀ q_, F_67 q_ → ¬ own a_48 q_ := hm_70.apart (fun q_ h1 h2 => pr_59 q_ h2 h1) ho_52.own_lt
              have pr_74 : ∀ q_, F_67 q_ → ¬ leftS (cs_50.map CT.l) q_ := hm_70.apart (fun q_ h1 h2 => pr_63 q_ h2 h1) hL_53.own_lt
              have pg_75 : ∀ q_, F_67 q_ → q_ < w.heap.size → F q_ := hm_70.inS (fun q_ h_ _ => h_) K0.size
              replace hb_4 := hb_4.keep K_71 pr_6
              replace ho_52 := ho_52.keepO K_71 pr_59
              replace hL_53 := hL_53.keepO K_71 pr_63
              replace K0 := K0.trans K_71 (fun x hlt hx => (fun q_ h_ _ => h_) x hx hlt)
              clear hm_70
              refine RL.nil ?_
              refine Run.inBlock ?_
              refine Run.fin0 Try.func14 rfl ?_
              have he : stepL room pl ⟨o.op, o.name, o.other, b, pts⟩ = crashL pl pts := by
                unfold stepL
                simp only
                repeat' split
                all_goals first | rfl | (exfalso; omega)
              exact ⟨_, rfl, rfl, F_67, by rw [he]; exact hD_69, movedS_of pg_75, K0⟩
            · try simp only [br] at hc41
              refine Run.region ?_
              refine RL.val (x_moveP rfl) ?_
              refine RL.st rfl <| St1.call (vals := [.pointer (some ⟨d, 0, none⟩)]) en25 rfl (wipeD hD ) ?_
              rintro _ w_77 ⟨F_76, rfl, hD_78, hm_79, K_80⟩
              have pr_81 : ¬ F_76 b_1 := hm_79.not pr_6 hb_4.lt
              have pg_82 : ∀ q_, F_76 q_ → q_ < w.heap.size → F q_ := hm_79.inS (fun q_ h_ _ => h_) K0.size
              replace hb_4 := hb_4.keep K_80 pr_6
              replace K0 := K0.trans K_80 (fun x hlt hx => (fun q_ h_ _ => h_) x hx hlt)
              clear hm_79
              refine RL.nil ?_
              refine Run.inBlock ?_
              refine Run.fin0 Try.func14 rfl ?_
              have he : stepL room pl ⟨o.op, o.name, o.other, b, pts⟩ = [] := by
                unfold stepL
                simp only
                repeat' split
                all_goals first | rfl | (exfalso; omega)
              exact ⟨_, rfl, rfl, F_76, by rw [he]; exact hD_78, movedS_of pg_82, K0⟩
  · try simp only [br] at hc10
    refine Run.seq ?_
    refine Run.region ?_
    refine RL.val (x_eqI rfl rfl) ?_
    refine RL.val (x_assignB rfl) ?_
    refine RL.nil ?_
    refine Run.cond rfl (fun hc10 => ?_) (fun hc10 => ?_)
    · try simp only [br] at hc10
      refine Run.skip ?_
      refine Run.cond rfl (fun hc10 => ?_) (fun hc10 => ?_)
      · try simp only [br] at hc10
        refine Run.drawT [] (m := 7) (by kernel_rfl) rfl ?_
        intro w_83 K_84
        replace hD := hD.ext K_84
        replace hbs := hbs.ext K_84
        replace hts := hts.ext K_84
        replace htt := htt.ext K_84
        replace hb_4 := hb_4.ext K_84
        replace K0 := K0.ext K_84
        refine ⟨fun w' => Blk w' b_1 [.int .i64 ((o).op), .string ((o).name), .string ((o).other), .slice ((o).bytes.a) ((o).bytes.len) ((o).bytes.cap), .slice ((o).tears.a) ((o).tears.len) ((o).tears.cap)] 34 ∧ True, ?_⟩
        refine RT.takeP (v := .pointer (some ⟨d, 0, none⟩)) 0 rfl (by kernel_rfl) (.inr ⟨hb_4, trivial⟩) (fun _ => (x_moveP rfl)) ?_
        refine RT.takeP (v := .pointer (some ⟨b_1, 1, none⟩)) 1 rfl (by kernel_rfl) (.inr ⟨hb_4, trivial⟩) (fun _ => (x_fld (o' := 1) Try.underlying34 rfl ty9 rfl rfl rfl)) ?_
        refine RT.take (v := .string ((o).name)) 2 rfl (by kernel_rfl) ⟨hb_4, trivial⟩ (by rintro _ ⟨hb_4, -⟩; exact (x_ld (v := .string ((o).name)) ty9 rfl rfl (hb_4.cl.field (i := 1) rfl))) ?_
        refine RT.takeP (v := .pointer (some ⟨b_1, 3, none⟩)) 3 rfl (by kernel_rfl) (.inr ⟨hb_4, trivial⟩) (fun _ => (x_fld (o' := 3) Try.underlying34 rfl ty26 rfl rfl rfl)) ?_
        refine RT.take (v := .slice (o.bytes.a) (b.length) (o.bytes.cap)) 4 rfl (by kernel_rfl) ⟨hb_4, trivial⟩ (by rintro _ ⟨hb_4, -⟩; exact (litSl (m' := b.length) (x_ld (v := .slice ((o).bytes.a) ((o).bytes.len) ((o).bytes.cap)) ty26 rfl rfl (hb_4.cl.field (i := 3) rfl)) hbl)) ?_
        refine RT.st 5 rfl (by kernel_rfl) rfl <| St1.call (vals := [.slice (o.bytes.a) (b.length) (o.bytes.cap)]) en32 rfl (clone_byte _ _ _ _ hbs (by omega)) ?_
        rintro _ w_87 ⟨a_85, c_86, rfl, ho_88, hg_89, K_90⟩
        have pr_91 : ∀ q_, own a_85 q_ → ¬ F q_ := apartNew hg_89 hD.own_lt
        have pr_92 : ¬ own a_85 b_1 := notNew hg_89 hb_4.lt
        have pg_93 : ∀ q_, own a_85 q_ → q_ < w.heap.size → F q_ := fun q_ h hlt => absurd (Nat.le_trans K0.size (hg_89 q_ h)) (by omega)
        have pw_94 : ∀ q_, own a_85 q_ → w.heap.size ≤ q_ := fun q_ h => Nat.le_trans K0.size (hg_89 q_ h)
        clear hg_89
        replace hD := hD.ext K_90
        replace hbs := hbs.ext K_90
        replace hts := hts.ext K_90
        replace htt := htt.ext K_90
        replace hb_4 := hb_4.ext K_90
        replace K0 := K0.ext K_90
        refine ⟨.inr ⟨hb_4, trivial⟩, ?_⟩
        refine RT.st 6 rfl (by kernel_rfl) rfl <| St1.call (vals := [.pointer (some ⟨d, 0, none⟩), .string ((o).name), .slice (a_85) (b.length) (c_86)]) en19 rfl (appendD hD ((o).name) _ _ _ (by first | omega | decide) ho_88.sl (fun x_ hx_ => pr_91 _ ⟨x_, hx_, rfl⟩) (by first | omega | decide)) ?_
        rintro _ w_96 ⟨F_95, rfl, hD_97, hm_98, K_99⟩
        have pr_100 : ¬ F_95 b_1 := hm_98.not pr_6 hb_4.lt
        have pr_101 : ∀ q_, F_95 q_ → ¬ own a_85 q_ := hm_98.apart (fun q_ h1 h2 => pr_91 q_ h2 h1) ho_88.own_lt
        have pg_102 : ∀ q_, F_95 q_ → q_ < w.heap.size → F q_ := hm_98.inS (fun q_ h_ _ => h_) K0.size
        replace hb_4 := hb_4.keep K_99 pr_6
        replace ho_88 := ho_88.keepO K_99 pr_91
        replace K0 := K0.trans K_99 (fun x hlt hx => (fun q_ h_ _ => h_) x hx hlt)
        clear hm_98
        refine ⟨.inr ⟨hb_4, trivial⟩, ?_⟩
        refine RT.done (by kernel_rfl) ?_
        refine Run.inBlock ?_
        refine Run.fin0 Try.func14 rfl ?_
        have he : stepL room pl ⟨o.op, o.name, o.other, b, pts⟩ = appL room pl ((o).name) b := by
          unfold stepL
          simp only
          repeat' split
          all_goals first | rfl | (exfalso; omega)
        exact ⟨_, rfl, rfl, F_95, by rw [he]; exact hD_97, movedS_of pg_102, K0⟩
      · try simp only [br] at hc10
        refine Run.seq ?_
        refine Run.region ?_
        refine RL.val (x_eqI rfl rfl) ?_
        refine RL.val (x_assignB rfl) ?_
        refine RL.nil ?_
        refine Run.cond rfl (fun hc21 => ?_) (fun hc21 => ?_)
        · try simp only [br] at hc21
          refine Run.region ?_
          refine RL.val (x_moveP rfl) ?_
          refine RL.val (x_fld (o' := 1) Try.underlying34 rfl ty9 rfl rfl rfl) ?_
          refine RL.val (x_ld (v := .string ((o).name)) ty9 rfl rfl (hb_4.cl.field (i := 1) rfl)) ?_
          refine RL.st rfl <| St1.call (vals := [.pointer (some ⟨d, 0, none⟩), .string ((o).name)]) en20 rfl (syncD hD ((o).name) (by first | omega | decide)) ?_
          rintro _ w_104 ⟨F_103, rfl, hD_105, hm_106, K_107⟩
          have pr_108 : ¬ F_103 b_1 := hm_106.not pr_6 hb_4.lt
          have pg_109 : ∀ q_, F_103 q_ → q_ < w.heap.size → F q_ := hm_106.inS (fun q_ h_ _ => h_) K0.size
          replace hb_4 := hb_4.keep K_107 pr_6
          replace K0 := K0.trans K_107 (fun x hlt hx => (fun q_ h_ _ => h_) x hx hlt)
          clear hm_106
          refine RL.nil ?_
          refine Run.inBlock ?_
          refine Run.fin0 Try.func14 rfl ?_
          have he : stepL room pl ⟨o.op, o.name, o.other, b, pts⟩ = syncL pl ((o).name) := by
            unfold stepL
            simp only
            repeat' split
            all_goals first | rfl | (exfalso; omega)
          exact ⟨_, rfl, rfl, F_103, by rw [he]; exact hD_105, movedS_of pg_109, K0⟩
        · try simp only [br] at hc21
          refine Run.seq ?_
          refine Run.region ?_
          refine RL.val (x_eqI rfl rfl) ?_
          refine RL.val (x_assignB rfl) ?_
          refine RL.nil ?_
          refine Run.cond rfl (fun hc27 => ?_) (fun hc27 => ?_)
          · try simp only [br] at hc27
            refine Run.region ?_
            refine RL.val (x_moveP rfl) ?_
            refine RL.val (x_fld (o' := 1) Try.underlying34 rfl ty9 rfl rfl rfl) ?_
            refine RL.val (x_ld (v := .string ((o).name)) ty9 rfl rfl (hb_4.cl.field (i := 1) rfl)) ?_
            refine RL.val (x_fld (o' := 2) Try.underlying34 rfl ty9 rfl rfl rfl) ?_
            refine RL.val (x_ld (v := .string ((o).other)) ty9 rfl rfl (hb_4.cl.field (i := 2) rfl)) ?_
            refine RL.st rfl <| St1.call (vals := [.pointer (some ⟨d, 0, none⟩), .string ((o).name), .string ((o).other)]) en21 rfl (renameD hD ((o).name) ((o).other) (by first | omega | decide) (by first | omega | decide)) ?_
            rintro _ w_111 ⟨F_110, rfl, hD_112, hm_113, K_114⟩
            have pr_115 : ¬ F_110 b_1 := hm_113.not pr_6 hb_4.lt
            have pg_116 : ∀ q_, F_110 q_ → q_ < w.heap.size → F q_ := hm_113.inS (fun q_ h_ _ => h_) K0.size
            replace hb_4 := hb_4.keep K_114 pr_6
            replace K0 := K0.trans K_114 (fun x hlt hx => (fun q_ h_ _ => h_) x hx hlt)
            clear hm_113
            refine RL.nil ?_
            refine Run.inBlock ?_
            refine Run.fin0 Try.func14 rfl ?_
            have he : stepL room pl ⟨o.op, o.name, o.other, b, pts⟩ = renL pl ((o).name) ((o).other) := by
              unfold stepL
              simp only
              repeat' split
              all_goals first | rfl | (exfalso; omega)
            exact ⟨_, rfl, rfl, F_110, by rw [he]; exact hD_112, movedS_of pg_116, K0⟩
          · try simp only [br] at hc27
            refine Run.seq ?_
            refine Run.region ?_
            refine RL.val (x_eqI rfl rfl) ?_
            refine RL.val (x_assignB rfl) ?_
            refine RL.nil ?_
            refine Run.cond rfl (fun hc35 => ?_) (fun hc35 => ?_)
            · try simp only [br] at hc35
              refine Run.region ?_
              refine RL.val (x_moveP rfl) ?_
              refine RL.val (x_fld (o' := 1) Try.underlying34 rfl ty9 rfl rfl rfl) ?_
              refine RL.val (x_ld (v := .string ((o).name)) ty9 rfl rfl (hb_4.cl.field (i := 1) rfl)) ?_
              refine RL.st rfl <| St1.call (vals := [.pointer (some ⟨d, 0, none⟩), .string ((o).name)]) en22 rfl (removeD hD ((o).name) (by first | omega | decide)) ?_
              rintro _ w_118 ⟨F_117, rfl, hD_119, hm_120, K_121⟩
              have pr_122 : ¬ F_117 b_1 := hm_120.not pr_6 hb_4.lt
              have pg_123 : ∀ q_, F_117 q_ → q_ < w.heap.size → F q_ := hm_120.inS (fun q_ h_ _ => h_) K0.size
              replace hb_4 := hb_4.keep K_121 pr_6
              replace K0 := K0.trans K_121 (fun x hlt hx => (fun q_ h_ _ => h_) x hx hlt)
              clear hm_120
              refine RL.nil ?_
              refine Run.inBlock ?_
              refine Run.fin0 Try.func14 rfl ?_
              have he : stepL room pl ⟨o.op, o.name, o.other, b, pts⟩ = remL pl ((o).name) := by
                unfold stepL
                simp only
                repeat' split
                all_goals first | rfl | (exfalso; omega)
              exact ⟨_, rfl, rfl, F_117, by rw [he]; exact hD_119, movedS_of pg_123, K0⟩
            · try simp only [br] at hc35
              refine Run.seq ?_
              refine Run.region ?_
              refine RL.val (x_eqI rfl rfl) ?_
              refine RL.val (x_assignB rfl) ?_
              refine RL.nil ?_
              refine Run.cond rfl (fun hc41 => ?_) (fun hc41 => ?_)
              · try simp only [br] at hc41
                refine Run.region ?_
                refine RL.val (x_moveP rfl) ?_
                refine RL.val (x_fld (o' := 4) Try.underlying34 rfl ty32 rfl rfl rfl) ?_
                refine RL.val (litSl (m' := ts.length) (x_ld (v := .slice ((o).tears.a) ((o).tears.len) ((o).tears.cap)) ty32 rfl rfl (hb_4.cl.field (i := 4) rfl)) htl) ?_
                refine RL.st rfl <| St1.call (vals := [.slice (o.tears.a) (ts.length) (o.tears.cap)]) en24 rfl (tears_ _ ts _ pts _ hts htt (by omega)) ?_
                rintro _ w_127 ⟨a_124, c_125, cs_126, rfl, ho_128, hL_129, hcp_130, hg_131, hg_132, hpr_133, K_134⟩
                have pr_135 : ∀ q_, own a_124 q_ → ¬ F q_ := apartNew hg_131 hD.own_lt
                have pr_136 : ¬ own a_124 b_1 := notNew hg_131 hb_4.lt
                have pg_137 : ∀ q_, own a_124 q_ → q_ < w.heap.size → F q_ := fun q_ h hlt => absurd (Nat.le_trans K0.size (hg_131 q_ h)) (by omega)
                have pw_138 : ∀ q_, own a_124 q_ → w.heap.size ≤ q_ := fun q_ h => Nat.le_trans K0.size (hg_131 q_ h)
                have pr_139 : ∀ q_, leftS (cs_126.map CT.l) q_ → ¬ F q_ := apartNew hg_132 hD.own_lt
                have pr_140 : ¬ leftS (cs_126.map CT.l) b_1 := notNew hg_132 hb_4.lt
                have pg_141 : ∀ q_, leftS (cs_126.map CT.l) q_ → q_ < w.heap.size → F q_ := fun q_ h hlt => absurd (Nat.le_trans K0.size (hg_132 q_ h)) (by omega)
                have pw_142 : ∀ q_, leftS (cs_126.map CT.l) q_ → w.heap.size ≤ q_ := fun q_ h => Nat.le_trans K0.size (hg_132 q_ h)
                clear hg_131 hg_132
                replace hD := hD.ext K_134
                replace hbs := hbs.ext K_134
                replace hts := hts.ext K_134
                replace htt := htt.ext K_134
                replace hb_4 := hb_4.ext K_134
                replace K0 := K0.ext K_134
                have hcl_cs_126 : (cs_126.map CT.t).length = pts.length := by rw [← hcp_130]; simp
                refine RL.st rfl <| St1.call (vals := [.pointer (some ⟨d, 0, none⟩), .slice (a_124) ((cs_126.map CT.t).length) (c_125)]) en23 rfl (crashD hD _ _ _ pts ho_128.sl (tearsAt_of hL_129 hcp_130 htt.size) (by first | omega | decide)) ?_
                rintro _ w_144 ⟨F_143, rfl, hD_145, hm_146, K_147⟩
                have pr_148 : ¬ F_143 b_1 := hm_146.not pr_6 hb_4.lt
                have pr_149 : ∀ q_, F_143 q_ → ¬ own a_124 q_ := hm_146.apart (fun q_ h1 h2 => pr_135 q_ h2 h1) ho_128.own_lt
                have pr_150 : ∀ q_, F_143 q_ → ¬ leftS (cs_126.map CT.l) q_ := hm_146.apart (fun q_ h1 h2 => pr_139 q_ h2 h1) hL_129.own_lt
                have pg_151 : ∀ q_, F_143 q_ → q_ < w.heap.size → F q_ := hm_146.inS (fun q_ h_ _ => h_) K0.size
                replace hb_4 := hb_4.keep K_147 pr_6
                replace ho_128 := ho_128.keepO K_147 pr_135
                replace hL_129 := hL_129.keepO K_147 pr_139
                replace K0 := K0.trans K_147 (fun x hlt hx => (fun q_ h_ _ => h_) x hx hlt)
                clear hm_146
                refine RL.nil ?_
                refine Run.inBlock ?_
                refine Run.fin0 Try.func14 rfl ?_
                have he : stepL room pl ⟨o.op, o.name, o.other, b, pts⟩ = crashL pl pts := by
                  unfold stepL
                  simp only
                  repeat' split
                  all_goals first | rfl | (exfalso; omega)
                exact ⟨_, rfl, rfl, F_143, by rw [he]; exact hD_145, movedS_of pg_151, K0⟩
              · try simp only [br] at hc41
                refine Run.region ?_
                refine RL.val (x_moveP rfl) ?_
                refine RL.st rfl <| St1.call (vals := [.pointer (some ⟨d, 0, none⟩)]) en25 rfl (wipeD hD ) ?_
                rintro _ w_153 ⟨F_152, rfl, hD_154, hm_155, K_156⟩
                have pr_157 : ¬ F_152 b_1 := hm_155.not pr_6 hb_4.lt
                have pg_158 : ∀ q_, F_152 q_ → q_ < w.heap.size → F q_ := hm_155.inS (fun q_ h_ _ => h_) K0.size
                replace hb_4 := hb_4.keep K_156 pr_6
                replace K0 := K0.trans K_156 (fun x hlt hx => (fun q_ h_ _ => h_) x hx hlt)
                clear hm_155
                refine RL.nil ?_
                refine Run.inBlock ?_
                refine Run.fin0 Try.func14 rfl ?_
                have he : stepL room pl ⟨o.op, o.name, o.other, b, pts⟩ = [] := by
                  unfold stepL
                  simp only
                  repeat' split
                  all_goals first | rfl | (exfalso; omega)
                exact ⟨_, rfl, rfl, F_152, by rw [he]; exact hD_154, movedS_of pg_158, K0⟩
    · try simp only [br] at hc10
      refine Run.region ?_
      refine RL.val (x_eqI rfl rfl) ?_
      refine RL.val (x_assignB rfl) ?_
      refine RL.nil ?_
      refine Run.cond rfl (fun hc10 => ?_) (fun hc10 => ?_)
      · try simp only [br] at hc10
        refine Run.drawT [] (m := 7) (by kernel_rfl) rfl ?_
        intro w_159 K_160
        replace hD := hD.ext K_160
        replace hbs := hbs.ext K_160
        replace hts := hts.ext K_160
        replace htt := htt.ext K_160
        replace hb_4 := hb_4.ext K_160
        replace K0 := K0.ext K_160
        refine ⟨fun w' => Blk w' b_1 [.int .i64 ((o).op), .string ((o).name), .string ((o).other), .slice ((o).bytes.a) ((o).bytes.len) ((o).bytes.cap), .slice ((o).tears.a) ((o).tears.len) ((o).tears.cap)] 34 ∧ True, ?_⟩
        refine RT.takeP (v := .pointer (some ⟨d, 0, none⟩)) 0 rfl (by kernel_rfl) (.inr ⟨hb_4, trivial⟩) (fun _ => (x_moveP rfl)) ?_
        refine RT.takeP (v := .pointer (some ⟨b_1, 1, none⟩)) 1 rfl (by kernel_rfl) (.inr ⟨hb_4, trivial⟩) (fun _ => (x_fld (o' := 1) Try.underlying34 rfl ty9 rfl rfl rfl)) ?_
        refine RT.take (v := .string ((o).name)) 2 rfl (by kernel_rfl) ⟨hb_4, trivial⟩ (by rintro _ ⟨hb_4, -⟩; exact (x_ld (v := .string ((o).name)) ty9 rfl rfl (hb_4.cl.field (i := 1) rfl))) ?_
        refine RT.takeP (v := .pointer (some ⟨b_1, 3, none⟩)) 3 rfl (by kernel_rfl) (.inr ⟨hb_4, trivial⟩) (fun _ => (x_fld (o' := 3) Try.underlying34 rfl ty26 rfl rfl rfl)) ?_
        refine RT.take (v := .slice (o.bytes.a) (b.length) (o.bytes.cap)) 4 rfl (by kernel_rfl) ⟨hb_4, trivial⟩ (by rintro _ ⟨hb_4, -⟩; exact (litSl (m' := b.length) (x_ld (v := .slice ((o).bytes.a) ((o).bytes.len) ((o).bytes.cap)) ty26 rfl rfl (hb_4.cl.field (i := 3) rfl)) hbl)) ?_
        refine RT.st 5 rfl (by kernel_rfl) rfl <| St1.call (vals := [.slice (o.bytes.a) (b.length) (o.bytes.cap)]) en32 rfl (clone_byte _ _ _ _ hbs (by omega)) ?_
        rintro _ w_163 ⟨a_161, c_162, rfl, ho_164, hg_165, K_166⟩
        have pr_167 : ∀ q_, own a_161 q_ → ¬ F q_ := apartNew hg_165 hD.own_lt
        have pr_168 : ¬ own a_161 b_1 := notNew hg_165 hb_4.lt
        have pg_169 : ∀ q_, own a_161 q_ → q_ < w.heap.size → F q_ := fun q_ h hlt => absurd (Nat.le_trans K0.size (hg_165 q_ h)) (by omega)
        have pw_170 : ∀ q_, own a_161 q_ → w.heap.size ≤ q_ := fun q_ h => Nat.le_trans K0.size (hg_165 q_ h)
        clear hg_165
        replace hD := hD.ext K_166
        replace hbs := hbs.ext K_166
        replace hts := hts.ext K_166
        replace htt := htt.ext K_166
        replace hb_4 := hb_4.ext K_166
        replace K0 := K0.ext K_166
        refine ⟨.inr ⟨hb_4, trivial⟩, ?_⟩
        refine RT.st 6 rfl (by kernel_rfl) rfl <| St1.call (vals := [.pointer (some ⟨d, 0, none⟩), .string ((o).name), .slice (a_161) (b.length) (c_162)]) en19 rfl (appendD hD ((o).name) _ _ _ (by first | omega | decide) ho_164.sl (fun x_ hx_ => pr_167 _ ⟨x_, hx_, rfl⟩) (by first | omega | decide)) ?_
        rintro _ w_172 ⟨F_171, rfl, hD_173, hm_174, K_175⟩
        have pr_176 : ¬ F_171 b_1 := hm_174.not pr_6 hb_4.lt
        have pr_177 : ∀ q_, F_171 q_ → ¬ own a_161 q_ := hm_174.apart (fun q_ h1 h2 => pr_167 q_ h2 h1) ho_164.own_lt
        have pg_178 : ∀ q_, F_171 q_ → q_ < w.heap.size → F q_ := hm_174.inS (fun q_ h_ _ => h_) K0.size
        replace hb_4 := hb_4.keep K_175 pr_6
        replace ho_164 := ho_164.keepO K_175 pr_167
        replace K0 := K0.trans K_175 (fun x hlt hx => (fun q_ h_ _ => h_) x hx hlt)
        clear hm_174
        refine ⟨.inr ⟨hb_4, trivial⟩, ?_⟩
        refine RT.done (by kernel_rfl) ?_
        refine Run.inBlock ?_
        refine Run.fin0 Try.func14 rfl ?_
        have he : stepL room pl ⟨o.op, o.name, o.other, b, pts⟩ = appL room pl ((o).name) b := by
          unfold stepL
          simp only
          repeat' split
          all_goals first | rfl | (exfalso; omega)
        exact ⟨_, rfl, rfl, F_171, by rw [he]; exact hD_173, movedS_of pg_178, K0⟩
      · try simp only [br] at hc10
        refine Run.seq ?_
        refine Run.region ?_
        refine RL.val (x_eqI rfl rfl) ?_
        refine RL.val (x_assignB rfl) ?_
        refine RL.nil ?_
        refine Run.cond rfl (fun hc21 => ?_) (fun hc21 => ?_)
        · try simp only [br] at hc21
          refine Run.region ?_
          refine RL.val (x_moveP rfl) ?_
          refine RL.val (x_fld (o' := 1) Try.underlying34 rfl ty9 rfl rfl rfl) ?_
          refine RL.val (x_ld (v := .string ((o).name)) ty9 rfl rfl (hb_4.cl.field (i := 1) rfl)) ?_
          refine RL.st rfl <| St1.call (vals := [.pointer (some ⟨d, 0, none⟩), .string ((o).name)]) en20 rfl (syncD hD ((o).name) (by first | omega | decide)) ?_
          rintro _ w_180 ⟨F_179, rfl, hD_181, hm_182, K_183⟩
          have pr_184 : ¬ F_179 b_1 := hm_182.not pr_6 hb_4.lt
          have pg_185 : ∀ q_, F_179 q_ → q_ < w.heap.size → F q_ := hm_182.inS (fun q_ h_ _ => h_) K0.size
          replace hb_4 := hb_4.keep K_183 pr_6
          replace K0 := K0.trans K_183 (fun x hlt hx => (fun q_ h_ _ => h_) x hx hlt)
          clear hm_182
          refine RL.nil ?_
          refine Run.inBlock ?_
          refine Run.fin0 Try.func14 rfl ?_
          have he : stepL room pl ⟨o.op, o.name, o.other, b, pts⟩ = syncL pl ((o).name) := by
            unfold stepL
            simp only
            repeat' split
            all_goals first | rfl | (exfalso; omega)
          exact ⟨_, rfl, rfl, F_179, by rw [he]; exact hD_181, movedS_of pg_185, K0⟩
        · try simp only [br] at hc21
          refine Run.seq ?_
          refine Run.region ?_
          refine RL.val (x_eqI rfl rfl) ?_
          refine RL.val (x_assignB rfl) ?_
          refine RL.nil ?_
          refine Run.cond rfl (fun hc27 => ?_) (fun hc27 => ?_)
          · try simp only [br] at hc27
            refine Run.region ?_
            refine RL.val (x_moveP rfl) ?_
            refine RL.val (x_fld (o' := 1) Try.underlying34 rfl ty9 rfl rfl rfl) ?_
            refine RL.val (x_ld (v := .string ((o).name)) ty9 rfl rfl (hb_4.cl.field (i := 1) rfl)) ?_
            refine RL.val (x_fld (o' := 2) Try.underlying34 rfl ty9 rfl rfl rfl) ?_
            refine RL.val (x_ld (v := .string ((o).other)) ty9 rfl rfl (hb_4.cl.field (i := 2) rfl)) ?_
            refine RL.st rfl <| St1.call (vals := [.pointer (some ⟨d, 0, none⟩), .string ((o).name), .string ((o).other)]) en21 rfl (renameD hD ((o).name) ((o).other) (by first | omega | decide) (by first | omega | decide)) ?_
            rintro _ w_187 ⟨F_186, rfl, hD_188, hm_189, K_190⟩
            have pr_191 : ¬ F_186 b_1 := hm_189.not pr_6 hb_4.lt
            have pg_192 : ∀ q_, F_186 q_ → q_ < w.heap.size → F q_ := hm_189.inS (fun q_ h_ _ => h_) K0.size
            replace hb_4 := hb_4.keep K_190 pr_6
            replace K0 := K0.trans K_190 (fun x hlt hx => (fun q_ h_ _ => h_) x hx hlt)
            clear hm_189
            refine RL.nil ?_
            refine Run.inBlock ?_
            refine Run.fin0 Try.func14 rfl ?_
            have he : stepL room pl ⟨o.op, o.name, o.other, b, pts⟩ = renL pl ((o).name) ((o).other) := by
              unfold stepL
              simp only
              repeat' split
              all_goals first | rfl | (exfalso; omega)
            exact ⟨_, rfl, rfl, F_186, by rw [he]; exact hD_188, movedS_of pg_192, K0⟩
          · try simp only [br] at hc27
            refine Run.seq ?_
            refine Run.region ?_
            refine RL.val (x_eqI rfl rfl) ?_
            refine RL.val (x_assignB rfl) ?_
            refine RL.nil ?_
            refine Run.cond rfl (fun hc35 => ?_) (fun hc35 => ?_)
            · try simp only [br] at hc35
              refine Run.region ?_
              refine RL.val (x_moveP rfl) ?_
              refine RL.val (x_fld (o' := 1) Try.underlying34 rfl ty9 rfl rfl rfl) ?_
              refine RL.val (x_ld (v := .string ((o).name)) ty9 rfl rfl (hb_4.cl.field (i := 1) rfl)) ?_
              refine RL.st rfl <| St1.call (vals := [.pointer (some ⟨d, 0, none⟩), .string ((o).name)]) en22 rfl (removeD hD ((o).name) (by first | omega | decide)) ?_
              rintro _ w_194 ⟨F_193, rfl, hD_195, hm_196, K_197⟩
              have pr_198 : ¬ F_193 b_1 := hm_196.not pr_6 hb_4.lt
              have pg_199 : ∀ q_, F_193 q_ → q_ < w.heap.size → F q_ := hm_196.inS (fun q_ h_ _ => h_) K0.size
              replace hb_4 := hb_4.keep K_197 pr_6
              replace K0 := K0.trans K_197 (fun x hlt hx => (fun q_ h_ _ => h_) x hx hlt)
              clear hm_196
              refine RL.nil ?_
              refine Run.inBlock ?_
              refine Run.fin0 Try.func14 rfl ?_
              have he : stepL room pl ⟨o.op, o.name, o.other, b, pts⟩ = remL pl ((o).name) := by
                unfold stepL
                simp only
                repeat' split
                all_goals first | rfl | (exfalso; omega)
              exact ⟨_, rfl, rfl, F_193, by rw [he]; exact hD_195, movedS_of pg_199, K0⟩
            · try simp only [br] at hc35
              refine Run.seq ?_
              refine Run.region ?_
              refine RL.val (x_eqI rfl rfl) ?_
              refine RL.val (x_assignB rfl) ?_
              refine RL.nil ?_
              refine Run.cond rfl (fun hc41 => ?_) (fun hc41 => ?_)
              · try simp only [br] at hc41
                refine Run.region ?_
                refine RL.val (x_moveP rfl) ?_
                refine RL.val (x_fld (o' := 4) Try.underlying34 rfl ty32 rfl rfl rfl) ?_
                refine RL.val (litSl (m' := ts.length) (x_ld (v := .slice ((o).tears.a) ((o).tears.len) ((o).tears.cap)) ty32 rfl rfl (hb_4.cl.field (i := 4) rfl)) htl) ?_
                refine RL.st rfl <| St1.call (vals := [.slice (o.tears.a) (ts.length) (o.tears.cap)]) en24 rfl (tears_ _ ts _ pts _ hts htt (by omega)) ?_
                rintro _ w_203 ⟨a_200, c_201, cs_202, rfl, ho_204, hL_205, hcp_206, hg_207, hg_208, hpr_209, K_210⟩
                have pr_211 : ∀ q_, own a_200 q_ → ¬ F q_ := apartNew hg_207 hD.own_lt
                have pr_212 : ¬ own a_200 b_1 := notNew hg_207 hb_4.lt
                have pg_213 : ∀ q_, own a_200 q_ → q_ < w.heap.size → F q_ := fun q_ h hlt => absurd (Nat.le_trans K0.size (hg_207 q_ h)) (by omega)
                have pw_214 : ∀ q_, own a_200 q_ → w.heap.size ≤ q_ := fun q_ h => Nat.le_trans K0.size (hg_207 q_ h)
                have pr_215 : ∀ q_, leftS (cs_202.map CT.l) q_ → ¬ F q_ := apartNew hg_208 hD.own_lt
                have pr_216 : ¬ leftS (cs_202.map CT.l) b_1 := notNew hg_208 hb_4.lt
                have pg_217 : ∀ q_, leftS (cs_202.map CT.l) q_ → q_ < w.heap.size → F q_ := fun q_ h hlt => absurd (Nat.le_trans K0.size (hg_208 q_ h)) (by omega)
                have pw_218 : ∀ q_, leftS (cs_202.map CT.l) q_ → w.heap.size ≤ q_ := fun q_ h => Nat.le_trans K0.size (hg_208 q_ h)
                clear hg_207 hg_208
                replace hD := hD.ext K_210
                replace hbs := hbs.ext K_210
                replace hts := hts.ext K_210
                replace htt := htt.ext K_210
                replace hb_4 := hb_4.ext K_210
                replace K0 := K0.ext K_210
                have hcl_cs_202 : (cs_202.map CT.t).length = pts.length := by rw [← hcp_206]; simp
                refine RL.st rfl <| St1.call (vals := [.pointer (some ⟨d, 0, none⟩), .slice (a_200) ((cs_202.map CT.t).length) (c_201)]) en23 rfl (crashD hD _ _ _ pts ho_204.sl (tearsAt_of hL_205 hcp_206 htt.size) (by first | omega | decide)) ?_
                rintro _ w_220 ⟨F_219, rfl, hD_221, hm_222, K_223⟩
                have pr_224 : ¬ F_219 b_1 := hm_222.not pr_6 hb_4.lt
                have pr_225 : ∀ q_, F_219 q_ → ¬ own a_200 q_ := hm_222.apart (fun q_ h1 h2 => pr_211 q_ h2 h1) ho_204.own_lt
                have pr_226 : ∀ q_, F_219 q_ → ¬ leftS (cs_202.map CT.l) q_ := hm_222.apart (fun q_ h1 h2 => pr_215 q_ h2 h1) hL_205.own_lt
                have pg_227 : ∀ q_, F_219 q_ → q_ < w.heap.size → F q_ := hm_222.inS (fun q_ h_ _ => h_) K0.size
                replace hb_4 := hb_4.keep K_223 pr_6
                replace ho_204 := ho_204.keepO K_223 pr_211
                replace hL_205 := hL_205.keepO K_223 pr_215
                replace K0 := K0.trans K_223 (fun x hlt hx => (fun q_ h_ _ => h_) x hx hlt)
                clear hm_222
                refine RL.nil ?_
                refine Run.inBlock ?_
                refine Run.fin0 Try.func14 rfl ?_
                have he : stepL room pl ⟨o.op, o.name, o.other, b, pts⟩ = crashL pl pts := by
                  unfold stepL
                  simp only
                  repeat' split
                  all_goals first | rfl | (exfalso; omega)
                exact ⟨_, rfl, rfl, F_219, by rw [he]; exact hD_221, movedS_of pg_227, K0⟩
              · try simp only [br] at hc41
                refine Run.region ?_
                refine RL.val (x_moveP rfl) ?_
                refine RL.st rfl <| St1.call (vals := [.pointer (some ⟨d, 0, none⟩)]) en25 rfl (wipeD hD ) ?_
                rintro _ w_229 ⟨F_228, rfl, hD_230, hm_231, K_232⟩
                have pr_233 : ¬ F_228 b_1 := hm_231.not pr_6 hb_4.lt
                have pg_234 : ∀ q_, F_228 q_ → q_ < w.heap.size → F q_ := hm_231.inS (fun q_ h_ _ => h_) K0.size
                replace hb_4 := hb_4.keep K_232 pr_6
                replace K0 := K0.trans K_232 (fun x hlt hx => (fun q_ h_ _ => h_) x hx hlt)
                clear hm_231
                refine RL.nil ?_
                refine Run.inBlock ?_
                refine Run.fin0 Try.func14 rfl ?_
                have he : stepL room pl ⟨o.op, o.name, o.other, b, pts⟩ = [] := by
                  unfold stepL
                  simp only
                  repeat' split
                  all_goals first | rfl | (exfalso; omega)
                exact ⟨_, rfl, rfl, F_228, by rw [he]; exact hD_230, movedS_of pg_234, K0⟩

set_option maxRecDepth 100000 in
set_option maxHeartbeats 4000000 in
theorem begun_ (room : Int) (a : Option Addr) (os : List DoC) (c : Nat) (ps : List DoP) (w : World) (hs : SlOf w a os) (hps : DosAt w os ps) (hl : os.length ≤ 4294967295) :
    Calls Try.prog 10 #[.int .i64 (room), .slice (a) (os.length) (c)] w (Ret (fun v w' => (¬ (0 ≤ room ∧ room ≤ 16777216) ∧ v = .pointer none ∧ Ext w w') ∨ ((0 ≤ room ∧ room ≤ 16777216) ∧ ∃ d F, v = .pointer (some ⟨d, 0, none⟩) ∧ DiskAt w' d F room (begunL room ps) ∧ (∀ q, F q → w.heap.size ≤ q) ∧ Ext w w'))) := by
  refine calls_run (n := 34) Try.func10 rfl rfl rfl ?_
  refine Run.seq ?_
  refine Run.region ?_
  refine RL.val (x_assignP rfl) ?_
  refine RL.nil ?_
  refine Run.seq ?_
  refine Run.region ?_
  refine RL.val (x_moveI rfl) ?_
  refine RL.st rfl <| St1.call (vals := [.int .i64 (room)]) en28 rfl (newD room _) ?_
  rintro _ w_3 (⟨hnr, rfl, K_6⟩ | ⟨hrm, d_1, F_2, rfl, hD_4, hg_5, K_6⟩)
  · have K0 := (K_6 : Ext w _)
    refine RL.val (x_moveT rfl) ?_
    refine RL.val (x_extract rfl rfl) ?_
    refine RL.val (x_extract rfl rfl) ?_
    refine RL.val (x_assignP rfl) ?_
    refine RL.val (x_assignI rfl) ?_
    refine RL.nil ?_
    refine Run.seq ?_
    refine Run.seq ?_
    refine Run.region ?_
    refine RL.val (x_moveI rfl) ?_
    refine RL.val (litT (x_neI rfl rfl) (by decide)) ?_
    refine RL.val (x_moveB rfl) ?_
    refine RL.guardF (wantedF0 rfl rfl rfl rfl) ?_
    refine RL.guardF (wantedF0 rfl rfl rfl rfl) ?_
    refine RL.val (x_or (b := true) (e := false) rfl rfl rfl) ?_
    refine RL.nil ?_
    refine Run.condT rfl ?_
    refine Run.seq ?_
    refine Run.region ?_
    refine RL.val (x_assignP rfl) ?_
    refine RL.nil ?_
    refine Run.ret1 (v := .pointer none) Try.func10 rfl rfl ?_
    exact ⟨_, rfl, .inl ⟨hnr, rfl, K0⟩⟩
  · have pg_7 : ∀ q_, F_2 q_ → w.heap.size ≤ q_ := fun q_ h => Nat.le_trans (Nat.le_refl _) (hg_5 q_ h)
    clear hg_5
    have K0 := (K_6 : Ext w _)
    refine RL.val (x_moveT rfl) ?_
    refine RL.val (x_extract rfl rfl) ?_
    refine RL.val (x_extract rfl rfl) ?_
    refine RL.val (x_assignP rfl) ?_
    refine RL.val (x_assignI rfl) ?_
    refine RL.nil ?_
    refine Run.seq ?_
    refine Run.seq ?_
    refine Run.region ?_
    refine RL.val (x_moveI rfl) ?_
    refine RL.val (litF (x_neI rfl rfl) (by decide)) ?_
    refine RL.val (x_moveB rfl) ?_
    refine RL.gst (wantedF1 rfl rfl rfl rfl) <| St1.val (x_moveP rfl) ?_
    refine RL.gst (wantedF1 rfl rfl rfl rfl) <| St1.val (litF (x_ptrNil Try.underlying23 rfl rfl) rfl) ?_
    refine RL.val (x_orF rfl rfl rfl) ?_
    refine RL.nil ?_
    refine Run.condF rfl ?_
    refine Run.skip ?_
    refine Run.seq ?_
    refine Run.seq ?_
    refine Run.region ?_
    refine RL.val (x_moveSl rfl) ?_
    refine RL.val (x_lenSl Try.underlying22 rfl) ?_
    refine RL.val (x_moveI rfl) ?_
    refine RL.nil ?_
    refine Run.block ?_
    refine Run.loop (ι := Nat) (fun i ρ' w' => ∃ F1 : Nat → Prop, Holds ρ' [(5, .pointer (some ⟨d_1, 0, none⟩)), (20, .slice (a) (os.length) (c)), (21, .int .i64 (((os.length : Nat) : Int))), (22, .int .i64 (((i : Nat) : Int)))] ∧ Ext w w' ∧ (DiskAt w' d_1 F1 room (runL room [] (ps.take i))) ∧ (∀ q_, F1 q_ → w.heap.size ≤ q_) ∧ (i ≤ os.length) ∧ (i ≤ 41)) (fun i => os.length - i) 0 ?_ ?_
    · refine ⟨_, ⟨rfl, rfl, rfl, rfl, trivial⟩, K0, hD_4, pg_7, ?_, ?_⟩
      · omega
      · omega
    clear hD_4
    clear K0
    rintro i ρ_12 w_8 ⟨F1, hH_9, K0, hO_10, pr_11, hi, hi41⟩ ih1
    obtain ⟨ρ₀, rfl⟩ := hH_9.ex
    clear hH_9
    refine Run.seq ?_
    refine Run.region ?_
    refine RL.val (x_ltI rfl rfl) ?_
    refine RL.nil ?_
    refine Run.seq ?_
    refine Run.cond rfl (fun hc23 => ?_) (fun hc23 => ?_)
    · try simp only [br] at hc23
      refine Run.skip ?_
      refine Run.seq ?_
      refine Run.block ?_
      refine Run.seq ?_
      refine Run.region ?_
      refine RL.val (x_moveI rfl) ?_
      obtain ⟨b_13, o_14, o, hx, ha_15, hc_16⟩ := hs.el (i := i) (by first | omega | (simp only [List.length_set]; omega))
      have hc_16_lt := hc_16.lt
      replace hc_16 := hc_16.ext K0
      refine RL.val (x_idxN Try.underlying22 ty34 rfl rfl ha_15 (by first | omega | (simp only [List.length_set]; omega))) ?_
      refine RL.val (x_ldV (v := .agg #[.int .i64 ((o).op), .string ((o).name), .string ((o).other), .slice ((o).bytes.a) ((o).bytes.len) ((o).bytes.cap), .slice ((o).tears.a) ((o).tears.len) ((o).tears.cap)]) (y := o) ty34 rfl hc_16 rfl) ?_
      refine RL.st rfl <| St1.alloc ty34 ?_
      intro b_19 w_20 hl_23 hb_22 K_21
      replace hb_22 : Blk w_20 b_19 [.int .i64 (0), .string (⟨#[]⟩), .string (⟨#[]⟩), .slice (none) (0) (0), .slice (none) (0) (0)] 34 := hb_22
      have ne_24 : b_13 < b_19 := Nat.lt_of_lt_of_le hc_16.lt hl_23
      have pr_25 : ¬ F1 b_19 := fun h => absurd (hO_10.own_lt _ h) (by omega)
      have : w.heap.size ≤ b_19 := Nat.le_trans K0.size hl_23
      clear hl_23
      replace hO_10 := hO_10.ext K_21
      replace hc_16 := hc_16.ext K_21
      replace K0 := K0.ext K_21
      refine RL.val (x_assignI rfl) ?_
      refine RL.st rfl <| St1.store (v := .agg #[.int .i64 ((o).op), .string ((o).name), .string ((o).other), .slice ((o).bytes.a) ((o).bytes.len) ((o).bytes.cap), .slice ((o).tears.a) ((o).tears.len) ((o).tears.cap)]) ty34 rfl rfl rfl (by simp [Value.cells, Value.oneCell']) hb_22 (by simp) ?_
      intro w_26 hb_22_ K_27
      have hb_22' : Blk w_26 b_19 [.int .i64 ((o).op), .string ((o).name), .string ((o).other), .slice ((o).bytes.a) ((o).bytes.len) ((o).bytes.cap), .slice ((o).tears.a) ((o).tears.len) ((o).tears.cap)] 34 := hb_22_
      clear hb_22_
      replace hO_10 := hO_10.keepO K_27 (fun q_ hq_ eq_ => pr_25 (by simp only [one] at eq_; rw [← eq_]; exact hq_))
      replace hc_16 := hc_16.keep K_27 (by simp only [one]; omega)
      replace K0 := K0.new K_27 (fun x hx => by simp only [one] at hx; omega)
      replace hb_22 := hb_22'
      clear hb_22'
      refine RL.nil ?_
      obtain ⟨p, hp⟩ : ∃ p_, ps[i]? = some p_ := ⟨_, List.getElem?_eq_getElem (by rw [← hps.len]; omega)⟩
      obtain ⟨b, pts, hpe, hdo⟩ := hps.all i o p hx hp
      refine Run.seq ?_
      refine Run.seq ?_
      refine Run.region ?_
      refine RL.val (x_moveI rfl) ?_
      refine RL.val (x_gtI rfl rfl) ?_
      refine RL.nil ?_
      refine Run.cond rfl (fun hc28 => ?_) (fun hc28 => ?_)
      · try simp only [br] at hc28
        refine Run.exit rfl ?_
        refine Run.seq ?_
        refine Run.region ?_
        refine RL.val (x_moveP rfl) ?_
        refine RL.val (x_assignP rfl) ?_
        refine RL.nil ?_
        refine Run.ret1 (v := .pointer (some ⟨d_1, 0, none⟩)) Try.func10 rfl rfl ?_
        have hpt : ps.take i = ps.take 41 := by first | (rw [show i = 41 by omega]) | (rw [List.take_of_length_le (by rw [← hps.len]; omega), List.take_of_length_le (by rw [← hps.len]; omega)])
        rw [hpt] at hO_10
        exact ⟨_, rfl, .inr ⟨hrm, d_1, F1, rfl, hO_10, pr_11, K0⟩⟩
      · try simp only [br] at hc28
        refine Run.skip ?_
        refine Run.region ?_
        refine RL.val (x_moveP rfl) ?_
        refine RL.val (x_lds (cs := #[.int .i64 ((o).op), .string ((o).name), .string ((o).other), .slice ((o).bytes.a) ((o).bytes.len) ((o).bytes.cap), .slice ((o).tears.a) ((o).tears.len) ((o).tears.cap)]) ty34 rfl rfl (hb_22.cl.drop 0 5)) ?_
        refine RL.st rfl <| St1.call (vals := [.pointer (some ⟨d_1, 0, none⟩), .agg #[.int .i64 ((o).op), .string ((o).name), .string ((o).other), .slice ((o).bytes.a) ((o).bytes.len) ((o).bytes.cap), .slice ((o).tears.a) ((o).tears.len) ((o).tears.cap)]]) en14 rfl (call_ _ _ _ (runL room [] (ps.take i)) _ _ _ _ hO_10 (hdo.ext K0)) ?_
        rintro _ w_29 ⟨rfl, F_28, hD_30, hm_31, K_32⟩
        rw [← hpe] at hD_30
        have pr_33 : ¬ F_28 b_19 := hm_31.not pr_25 hb_22.lt
        have pg_34 : ∀ q_, F_28 q_ → w.heap.size ≤ q_ := hm_31.ge pr_11 K0.size
        replace hb_22 := hb_22.keep K_32 pr_25
        replace K0 := K0.new K_32 pr_11
        clear hm_31
        refine RL.nil ?_
        rw [← runL_snoc hp] at hD_30
        refine Run.inBlock ?_
        refine Run.region ?_
        refine RL.val (litI (c := ((i + 1 : Nat) : Int)) (x_add rfl rfl (by omega) (by omega)) rfl) ?_
        refine RL.val (x_moveI rfl) ?_
        refine RL.nil ?_
        refine ih1 (i + 1) _ _ ?_ (by omega)
        refine ⟨_, ⟨rfl, rfl, rfl, rfl, trivial⟩, K0, hD_30, pg_34, ?_, ?_⟩
        · omega
        · omega
    · try simp only [br] at hc23
      refine Run.exit rfl ?_
      refine Run.seq ?_
      refine Run.region ?_
      refine RL.val (x_moveP rfl) ?_
      refine RL.val (x_assignP rfl) ?_
      refine RL.nil ?_
      refine Run.ret1 (v := .pointer (some ⟨d_1, 0, none⟩)) Try.func10 rfl rfl ?_
      have hpt : ps.take i = ps.take 41 := by first | (rw [show i = 41 by omega]) | (rw [List.take_of_length_le (by rw [← hps.len]; omega), List.take_of_length_le (by rw [← hps.len]; omega)])
      rw [hpt] at hO_10
      exact ⟨_, rfl, .inr ⟨hrm, d_1, F1, rfl, hO_10, pr_11, K0⟩⟩

set_option maxRecDepth 100000 in
set_option maxHeartbeats 4000000 in
theorem awake_ (w : World) :
    Calls Try.prog 11 #[] w (Ret (fun v w' => v = .bool true ∧ Ext w w')) := by
  refine calls_run (n := 48) Try.func11 rfl rfl rfl ?_
  refine Run.seq ?_
  refine Run.region ?_
  refine RL.val (x_assignB rfl) ?_
  refine RL.nil ?_
  refine Run.seq ?_
  refine Run.region ?_
  refine RL.st rfl <| St1.call (vals := [.int .i64 (9)]) en28 rfl (newD 9 _) ?_
  rintro _ w_3 (⟨hnr, rfl, K_6⟩ | ⟨hrm, d_1, F_2, rfl, hD_4, hg_5, K_6⟩)
  · exact absurd (by decide) hnr
  · have pg_7 : ∀ q_, F_2 q_ → w.heap.size ≤ q_ := fun q_ h => Nat.le_trans (Nat.le_refl _) (hg_5 q_ h)
    clear hg_5
    have K0 := (K_6 : Ext w _)
    refine RL.val (x_moveT rfl) ?_
    refine RL.val (x_extract rfl rfl) ?_
    refine RL.val (x_extract rfl rfl) ?_
    refine RL.val (x_assignP rfl) ?_
    refine RL.val (x_assignI rfl) ?_
    refine RL.nil ?_
    refine Run.seq ?_
    refine Run.seq ?_
    refine Run.region ?_
    refine RL.val (x_moveI rfl) ?_
    refine RL.val (litF (x_neI rfl rfl) (by decide)) ?_
    refine RL.val (x_moveB rfl) ?_
    refine RL.gst (wantedF1 rfl rfl rfl rfl) <| St1.val (x_moveP rfl) ?_
    refine RL.gst (wantedF1 rfl rfl rfl rfl) <| St1.val (litF (x_ptrNil Try.underlying23 rfl rfl) rfl) ?_
    refine RL.val (x_orF rfl rfl rfl) ?_
    refine RL.val (x_moveB rfl) ?_
    refine RL.gst (wantedF1 rfl rfl rfl rfl) <| St1.val (x_moveP rfl) ?_
    refine RL.gst (wantedF1 rfl rfl rfl rfl) <| St1.buildSlice ([7, 8] : List UInt8) Try.underlying26 ty5 rfl rfl (by first | decide | (simp [Enc.size])) ?_
    intro b_8 w_9 hl_12 ho_11 K_10
    have pr_13 : ∀ q_, own (some ⟨b_8, 0, none⟩) q_ → ¬ F_2 q_ := apartNew (ge_new hl_12) hD_4.own_lt
    have pg_14 : ∀ q_, own (some ⟨b_8, 0, none⟩) q_ → w.heap.size ≤ q_ := fun q_ h => Nat.le_trans K0.size ((ge_new hl_12) q_ h)
    clear hl_12
    replace hD_4 := hD_4.ext K_10
    replace K0 := K0.ext K_10
    refine RL.gst (wantedF1 rfl rfl rfl rfl) <| St1.call (vals := [.pointer (some ⟨d_1, 0, none⟩), .string (⟨#[97]⟩), .slice (some ⟨b_8, 0, none⟩) (([7, 8] : List UInt8).length) (([7, 8] : List UInt8).length)]) en19 rfl (dcast (appendD hD_4 ⟨#[97]⟩ _ _ _ (by first | omega | decide) ho_11.sl (fun x_ hx_ => pr_13 _ ⟨x_, hx_, rfl⟩) (by first | omega | decide)) aw_e1 aw_l1) ?_
    rintro _ w_16 ⟨F_15, rfl, hD_17, hm_18, K_19⟩
    have pr_20 : ∀ q_, F_15 q_ → ¬ own (some ⟨b_8, 0, none⟩) q_ := hm_18.apart (fun q_ h1 h2 => pr_13 q_ h2 h1) ho_11.own_lt
    have pg_21 : ∀ q_, F_15 q_ → w.heap.size ≤ q_ := hm_18.ge pg_7 K0.size
    replace ho_11 := ho_11.keepO K_19 pr_13
    replace K0 := K0.new K_19 pg_7
    clear hm_18
    refine RL.gst (wantedF1 rfl rfl rfl rfl) <| St1.val (litF (x_neI rfl rfl) (by decide)) ?_
    refine RL.val (x_orF rfl rfl rfl) ?_
    refine RL.val (x_moveB rfl) ?_
    refine RL.gst (wantedF1 rfl rfl rfl rfl) <| St1.val (x_moveP rfl) ?_
    refine RL.gst (wantedF1 rfl rfl rfl rfl) <| St1.call (vals := [.pointer (some ⟨d_1, 0, none⟩), .string (⟨#[97]⟩)]) en20 rfl (dcast (syncD hD_17 ⟨#[97]⟩ (by first | omega | decide)) aw_e2 aw_l2) ?_
    rintro _ w_23 ⟨F_22, rfl, hD_24, hm_25, K_26⟩
    have pr_27 : ∀ q_, F_22 q_ → ¬ own (some ⟨b_8, 0, none⟩) q_ := hm_25.apart pr_20 ho_11.own_lt
    have pg_28 : ∀ q_, F_22 q_ → w.heap.size ≤ q_ := hm_25.ge pg_21 K0.size
    replace ho_11 := ho_11.keepO K_26 (fun q_ h1 h2 => pr_20 q_ h2 h1)
    replace K0 := K0.new K_26 pg_21
    clear hm_25
    refine RL.gst (wantedF1 rfl rfl rfl rfl) <| St1.val (litF (x_neI rfl rfl) (by decide)) ?_
    refine RL.val (x_orF rfl rfl rfl) ?_
    refine RL.nil ?_
    refine Run.condF rfl ?_
    refine Run.skip ?_
    refine Run.seq ?_
    refine Run.region ?_
    refine RL.val (x_moveP rfl) ?_
    refine RL.st rfl <| St1.call (vals := [.pointer (some ⟨d_1, 0, none⟩), .string (⟨#[97]⟩)]) en12 rfl (aw_read hD_24) ?_
    rintro _ w_31 ⟨a_29, c_30, rfl, ho_32, hg_33, K_34⟩
    have pr_35 : ∀ q_, own a_29 q_ → ¬ own (some ⟨b_8, 0, none⟩) q_ := apartNew hg_33 ho_11.own_lt
    have pr_36 : ∀ q_, own a_29 q_ → ¬ F_22 q_ := apartNew hg_33 hD_24.own_lt
    have pg_37 : ∀ q_, own a_29 q_ → w.heap.size ≤ q_ := fun q_ h => Nat.le_trans K0.size (hg_33 q_ h)
    clear hg_33
    replace ho_11 := ho_11.ext K_34
    replace hD_24 := hD_24.ext K_34
    replace K0 := K0.ext K_34
    refine RL.val (x_moveT rfl) ?_
    refine RL.val (x_extract rfl rfl) ?_
    refine RL.val (x_extract rfl rfl) ?_
    refine RL.val (x_assignSl rfl) ?_
    refine RL.val (x_assignI rfl) ?_
    refine RL.nil ?_
    refine Run.seq ?_
    refine Run.region ?_
    refine RL.val (x_moveI rfl) ?_
    refine RL.val (litT (x_eqI rfl rfl) (by decide)) ?_
    refine RL.val (x_moveB rfl) ?_
    refine RL.gst (wantedT1 rfl rfl rfl rfl) <| St1.val (x_moveSl rfl) ?_
    refine RL.gst (wantedT1 rfl rfl rfl rfl) <| St1.val (litI (c := 2) (x_lenSl Try.underlying26 rfl) rfl) ?_
    refine RL.gst (wantedT1 rfl rfl rfl rfl) <| St1.val (litT (x_eqI rfl rfl) (by decide)) ?_
    refine RL.val (x_andT rfl rfl rfl) ?_
    refine RL.val (x_moveB rfl) ?_
    refine RL.gst (wantedT1 rfl rfl rfl rfl) <| St1.val (x_moveSl rfl) ?_
    obtain ⟨b_38, o_39, x_42, hx_43, ha_40, hc_41⟩ := ho_32.sl.el (i := 1) (by simp)
    obtain rfl : (8 : UInt8) = x_42 := Option.some.inj hx_43
    refine RL.gst (wantedT1 rfl rfl rfl rfl) <| St1.val (x_idxN Try.underlying26 ty5 rfl rfl ha_40 (by simp)) ?_
    refine RL.gst (wantedT1 rfl rfl rfl rfl) <| St1.val (x_ldV (v := .int .u8 ((((8 : UInt8)).toNat : Int))) (y := (8 : UInt8)) ty5 rfl hc_41 rfl) ?_
    refine RL.gst (wantedT1 rfl rfl rfl rfl) <| St1.val (x_eqI rfl rfl) ?_
    refine RL.val (x_andT rfl rfl rfl) ?_
    refine RL.val (x_moveB rfl) ?_
    refine RL.gval (wantedT rfl rfl rfl rfl) (fun hg => (x_moveP rfl)) ?_
    refine RL.gcall (vals := [.pointer (some ⟨d_1, 0, none⟩)]) (wantedT rfl rfl rfl rfl) en26 (fun hg => (mcons (gvr hg) mnil)) (fun hg => (aw_used hD_24)) ?_
    intro w_44 K_45
    replace ho_11 := ho_11.ext K_45
    replace hD_24 := hD_24.ext K_45
    replace ho_32 := ho_32.ext K_45
    replace hc_41 := hc_41.ext K_45
    replace K0 := K0.ext K_45
    refine RL.gval (wantedT rfl rfl rfl rfl) (fun hg => (litT (x_eqI (gvr hg) rfl) (by decide))) ?_
    refine RL.val (x_and rfl rfl rfl) ?_
    refine RL.val (x_assignB rfl) ?_
    refine RL.nil ?_
    refine Run.ret1 (v := .bool (((((8 : UInt8)).toNat : Int) == 8) && true)) Try.func11 rfl rfl ?_
    exact ⟨_, rfl, rfl, K0⟩

end Go.Proofs.Ytambibdkanpmaaa
