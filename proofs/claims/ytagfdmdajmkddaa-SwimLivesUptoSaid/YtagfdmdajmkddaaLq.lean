/-
  The reference's table: waited.
-/
import Derived.Test.YtagfdmdajmkddaaRows
import Derived.Test.YtagfdmdajmkddaaLp
namespace Go.Proofs.Ytagfdmdajmkddaa
attribute [local irreducible] St1 RL RA RT RT1 Run

open Sa
theorem learn_known {T : Tab} {n : Nat} {k y : KnownM} {p : Peer} (hk : T.l[n]? = some k) (hs : k.peer.status ≠ 0) (hp : p.status ≠ 0) (hn : p.node.toNat = n) : ((knownL T.l).set (posL T.l n) y).set (posL T.l n) ⟨p, T.now⟩ = knownL (learnT T p).l := by
  rw [List.set_set]
  simp only [learnT, hn]
  exact known_set hk hs hp

theorem en54 : Enters Try.prog 54 := enters_of Try.func54 rfl (by kernel_rfl)

set_option maxRecDepth 100000 in
set_option maxHeartbeats 4000000 in
theorem waitedR_ (b : Nat) (aL : Option Addr) (cL : Nat) (aP : Option Addr) (cP : Nat) (T : Tab)  (w : World) (hR : RTabAt w b aL cL aP cP T) (hpl : T.pings.length ≤ 1048576) :
    Calls Try.prog 52 #[.pointer (some ⟨b, 0, none⟩)] w (Ret (fun v w' => ∃ aL' cL' aP' cP' a0 c0 a1 c1, v = .tuple #[.slice a0 (waitedT T).out.length c0, .slice a1 (waitedT T).told.length c1] ∧ RTabAt w' b aL' cL' aP' cP' ((waitedT T).T) ∧ OwnSl w' 61 a0 c0 ((waitedT T).out) ∧ OwnSl w' 23 a1 c1 ((waitedT T).told) ∧ (∀ x, own a0 x → w.heap.size ≤ x) ∧ (∀ x, own a1 x → w.heap.size ≤ x) ∧ (∀ x, own a0 x → ¬ rtabS b aL' aP' x) ∧ (∀ x, own a1 x → ¬ rtabS b aL' aP' x) ∧ (∀ x, own a0 x → ¬ own a1 x) ∧ MovedS w (rtabS b aL aP) (rtabS b aL' aP') ∧ Keeps (rtabS b aL aP) w w')) := by
  have hz0 : ∀ q_, rtabS b aL aP q_ → q_ < w.heap.size → rtabS b aL aP q_ := fun _ h _ => h
  have hok := hR.ok
  have hnv := hR.nev
  refine calls_run (n := 166) Try.func52 rfl rfl rfl ?_
  refine Run.seq ?_
  refine Run.region ?_
  refine RL.val (x_assignSl rfl) ?_
  refine RL.val (x_assignSl rfl) ?_
  refine RL.nil ?_
  refine Run.seq ?_
  refine Run.region ?_
  refine RL.val (x_assignSl rfl) ?_
  refine RL.nil ?_
  refine Run.seq ?_
  refine Run.region ?_
  refine RL.val (x_assignSl rfl) ?_
  refine RL.nil ?_
  refine Run.seq ?_
  refine Run.region ?_
  refine RL.val (x_assignSl rfl) ?_
  refine RL.nil ?_
  refine Run.seq ?_
  refine Run.seq ?_
  refine Run.region ?_
  refine RL.val (x_assignI rfl) ?_
  refine RL.nil ?_
  refine Run.block ?_
  refine Run.loop (ι := Nat) (fun i ρ' w' => ∃ aLb : Option Addr, ∃ cLb : Nat, ∃ aPb : Option Addr, ∃ cPb : Nat, ∃ at1 : Option Addr, ∃ ct1 : Nat, ∃ at2 : Option Addr, ∃ ct2 : Nat, ∃ at3 : Option Addr, ∃ ct3 : Nat, Holds ρ' [(0, .pointer (some ⟨b, 0, none⟩)), (4, .slice (at1) (((waiI T i).out).length) (ct1)), (5, .slice (at2) (((waiI T i).told).length) (ct2)), (6, .slice (at3) (((waiI T i).left).length) (ct3)), (7, .int .i64 (((i : Nat) : Int)))] ∧ Keeps (rtabS b aL aP) w w' ∧ (RTabAt w' b aLb cLb aPb cPb ((waiI T i).T)) ∧ (OwnSl w' 61 at1 ct1 ((waiI T i).out)) ∧ (OwnSl w' 23 at2 ct2 ((waiI T i).told)) ∧ (OwnSl w' 98 at3 ct3 ((waiI T i).left)) ∧ (∀ q_, rtabS b aLb aPb q_ → ¬ own at1 q_) ∧ (∀ q_, rtabS b aLb aPb q_ → ¬ own at2 q_) ∧ (∀ q_, rtabS b aLb aPb q_ → ¬ own at3 q_) ∧ (∀ q_, rtabS b aLb aPb q_ → q_ < w.heap.size → (rtabS b aL aP) q_) ∧ (∀ q_, own at1 q_ → ¬ own at2 q_) ∧ (∀ q_, own at1 q_ → ¬ own at3 q_) ∧ (∀ q_, own at1 q_ → q_ < w.heap.size → (rtabS b aL aP) q_) ∧ (∀ q_, own at2 q_ → ¬ own at3 q_) ∧ (∀ q_, own at2 q_ → q_ < w.heap.size → (rtabS b aL aP) q_) ∧ (∀ q_, own at3 q_ → q_ < w.heap.size → (rtabS b aL aP) q_) ∧ (∀ q_, own at1 q_ → w.heap.size ≤ q_) ∧ (∀ q_, own at2 q_ → w.heap.size ≤ q_) ∧ (∀ q_, own at3 q_ → w.heap.size ≤ q_) ∧ (i ≤ T.pings.length)) (fun i => T.pings.length - i) 0 ?_ ?_
  · rw [show waiI T 0 = ⟨T, [], [], []⟩ from tf_zero _ _ _]
    have ho_20 := OwnSl.nil (α := MsgC) w 61
    have ho_21 := OwnSl.nil (α := Peer) w 23
    have ho_22 := OwnSl.nil (α := Ping) w 98
    refine ⟨_, _, _, _, _, _, _, _, _, _, ⟨rfl, rfl, rfl, rfl, rfl, trivial⟩, (Keeps.refl _ w), hR, ho_20, ho_21, ho_22, (fun q_ h1 h2 => (fun q_ h1 _ => own_none q_ h1) q_ h2 h1), (fun q_ h1 h2 => (fun q_ h1 _ => own_none q_ h1) q_ h2 h1), (fun q_ h1 h2 => (fun q_ h1 _ => own_none q_ h1) q_ h2 h1), hz0, (fun q_ h1 h2 => (fun q_ h1 _ => own_none q_ h1) q_ h2 h1), (fun q_ h1 h2 => (fun q_ h1 _ => own_none q_ h1) q_ h2 h1), (fun q_ h1 _ => absurd h1 (own_none q_)), (fun q_ h1 h2 => (fun q_ h1 _ => own_none q_ h1) q_ h2 h1), (fun q_ h1 _ => absurd h1 (own_none q_)), (fun q_ h1 _ => absurd h1 (own_none q_)), (fun q_ h1 => absurd h1 (own_none q_)), (fun q_ h1 => absurd h1 (own_none q_)), (fun q_ h1 => absurd h1 (own_none q_)), ?_⟩
    · omega
  clear hR
  rintro i ρ_23 w_1 ⟨aLb, cLb, aPb, cPb, at1, ct1, at2, ct2, at3, ct3, hH_2, K0, hO_3, ho_4, ho_5, ho_6, pr_7, pr_8, pr_9, pr_10, pr_11, pr_12, pr_13, pr_14, pr_15, pr_16, pr_17, pr_18, pr_19, hi⟩ ih1
  obtain ⟨ρ₀, rfl⟩ := hH_2.ex
  clear hH_2
  refine Run.seq ?_
  refine Run.seq ?_
  have hwo := wai_ok T hok i (by omega)
  have hwn := wai_nev hok hnv i (by omega)
  have hwn2 : Nev (waiI T i).T.self (waiI T i).T := by rw [hwo.self]; exact hwn
  have hnw := hwo.ok.now0
  have hno := hwo.now
  have hb1 := hwo.out
  have hb2 := hwo.told
  have hb3 := hwo.left
  have hsl : (waiI T i).T.pings.length = T.pings.length := by rw [hwo.same]
  have hkl := knownL_len (waiI T i).T.l
  have hl8 := hwo.ok.len
  obtain ⟨hb24, hoL24, hoP24, hapL24, hapP24, hapLP24, ok24, nv24⟩ := hO_3
  replace hb24 : Blk w_1 b [.int .i64 (((waiI T i).T).self), .int .i64 (((waiI T i).T).now), .slice (aLb) ((knownL ((waiI T i).T).l).length) (cLb), .slice (aPb) (((waiI T i).T).pings.length) (cPb), .int .i64 (((waiI T i).T).req), .bool (((waiI T i).T).begun), .int .i64 (((waiI T i).T).last), .int .i64 (((waiI T i).T).target)] 94 := hb24
  refine Run.region ?_
  refine RL.val (x_moveI rfl) ?_
  refine RL.val (x_moveP rfl) ?_
  refine RL.val (x_nilCheck rfl) ?_
  refine RL.val (x_fld (o' := 3) Try.underlying94 rfl ty92 rfl rfl rfl) ?_
  refine RL.val (x_ld (v := .slice (aPb) (((waiI T i).T).pings.length) (cPb)) ty92 rfl rfl (hb24.cl.field (i := 3) rfl)) ?_
  refine RL.val (x_lenSl Try.underlying92 rfl) ?_
  refine RL.val (x_ltI rfl rfl) ?_
  refine RL.nil ?_
  refine Run.cond rfl (fun hc19 => ?_) (fun hc19 => ?_)
  · try simp only [br] at hc19
    refine Run.skip ?_
    refine Run.seq ?_
    refine Run.block ?_
    refine Run.seq ?_
    refine Run.region ?_
    refine RL.val (x_moveP rfl) ?_
    refine RL.val (x_nilCheck rfl) ?_
    refine RL.val (x_fld (o' := 3) Try.underlying94 rfl ty92 rfl rfl rfl) ?_
    refine RL.val (x_ld (v := .slice (aPb) (((waiI T i).T).pings.length) (cPb)) ty92 rfl rfl (hb24.cl.field (i := 3) rfl)) ?_
    refine RL.val (x_moveI rfl) ?_
    obtain ⟨b_25, o_26, p, hx, ha_27, hc_28⟩ := hoP24.sl.el (i := i) (by first | omega | (simp only [List.length_set]; omega))
    refine RL.val (x_idxN Try.underlying92 ty98 rfl rfl ha_27 (by first | omega | (simp only [List.length_set]; omega))) ?_
    refine RL.val (x_ldV (v := .agg #[.int .i64 ((p).target), .int .i64 ((p).req), .int .i64 ((p).since), .bool ((p).others)]) (y := p) ty98 rfl hc_28 rfl) ?_
    refine RL.st rfl <| St1.alloc ty98 ?_
    intro b_31 w_32 hl_35 hb_34 K_33
    replace hb_34 : Blk w_32 b_31 [.int .i64 (0), .int .i64 (0), .int .i64 (0), .bool (false)] 98 := hb_34
    have ne_36 : b < b_31 := Nat.lt_of_lt_of_le hb24.lt hl_35
    have ne_37 : b_25 < b_31 := Nat.lt_of_lt_of_le hc_28.lt hl_35
    have pr_38 : ¬ own at1 b_31 := fun h => absurd (ho_4.own_lt _ h) (by omega)
    have pr_39 : ¬ own at2 b_31 := fun h => absurd (ho_5.own_lt _ h) (by omega)
    have pr_40 : ¬ own at3 b_31 := fun h => absurd (ho_6.own_lt _ h) (by omega)
    have pr_41 : ¬ own aLb b_31 := fun h => absurd (hoL24.own_lt _ h) (by omega)
    have pr_42 : ¬ own aPb b_31 := fun h => absurd (hoP24.own_lt _ h) (by omega)
    have : w.heap.size ≤ b_31 := Nat.le_trans K0.size hl_35
    clear hl_35
    replace ho_4 := ho_4.ext K_33
    replace ho_5 := ho_5.ext K_33
    replace ho_6 := ho_6.ext K_33
    replace hb24 := hb24.ext K_33
    replace hoL24 := hoL24.ext K_33
    replace hoP24 := hoP24.ext K_33
    replace hc_28 := hc_28.ext K_33
    replace K0 := K0.ext K_33
    refine RL.st rfl <| St1.store (v := .agg #[.int .i64 ((p).target), .int .i64 ((p).req), .int .i64 ((p).since), .bool ((p).others)]) ty98 rfl rfl rfl (by simp [Value.cells, Value.oneCell']) hb_34 (by simp) ?_
    intro w_43 hb_34_ K_44
    have hb_34' : Blk w_43 b_31 [.int .i64 ((p).target), .int .i64 ((p).req), .int .i64 ((p).since), .bool ((p).others)] 98 := hb_34_
    clear hb_34_
    replace ho_4 := ho_4.keepO K_44 (fun q_ hq_ eq_ => pr_38 (by simp only [one] at eq_; rw [← eq_]; exact hq_))
    replace ho_5 := ho_5.keepO K_44 (fun q_ hq_ eq_ => pr_39 (by simp only [one] at eq_; rw [← eq_]; exact hq_))
    replace ho_6 := ho_6.keepO K_44 (fun q_ hq_ eq_ => pr_40 (by simp only [one] at eq_; rw [← eq_]; exact hq_))
    replace hb24 := hb24.keep K_44 (by simp only [one]; omega)
    replace hoL24 := hoL24.keepO K_44 (fun q_ hq_ eq_ => pr_41 (by simp only [one] at eq_; rw [← eq_]; exact hq_))
    replace hoP24 := hoP24.keepO K_44 (fun q_ hq_ eq_ => pr_42 (by simp only [one] at eq_; rw [← eq_]; exact hq_))
    replace hc_28 := hc_28.keep K_44 (fun e => pr_42 (by simp only [one] at e; rw [← e]; exact (own_sub _) _ ha_27))
    replace K0 := K0.trans K_44 (fun x hlt hx => absurd hlt (by simp only [one] at hx; omega))
    replace hb_34 := hb_34'
    clear hb_34'
    refine RL.nil ?_
    have hx' : T.pings[i]? = some p := by rw [← hwo.same]; exact hx
    have hpp := hok.pings p (mem_of_at hx')
    refine Run.seq ?_
    refine Run.seq ?_
    refine Run.draw' (m := 8) (by kernel_rfl) rfl ?_
    intro w_45 K_46
    replace ho_4 := ho_4.ext K_46
    replace ho_5 := ho_5.ext K_46
    replace ho_6 := ho_6.ext K_46
    replace hb24 := hb24.ext K_46
    replace hoL24 := hoL24.ext K_46
    replace hoP24 := hoP24.ext K_46
    replace hb_34 := hb_34.ext K_46
    replace K0 := K0.ext K_46
    refine RA.take (v := .pointer (some ⟨b, 0, none⟩)) 0 rfl (by kernel_rfl) rfl (by rintro _ rfl; exact (x_moveP rfl)) ?_
    refine RA.take (v := .pointer (some ⟨b, 0, none⟩)) 1 rfl (by kernel_rfl) rfl (by rintro _ rfl; exact (x_nilCheck rfl)) ?_
    refine RA.take (v := .pointer (some ⟨b, 1, none⟩)) 2 rfl (by kernel_rfl) rfl (by rintro _ rfl; exact (x_fld (o' := 1) Try.underlying94 rfl ty3 rfl rfl rfl)) ?_
    refine RA.take (v := .int .i64 (((waiI T i).T).now)) 3 rfl (by kernel_rfl) rfl (by rintro _ rfl; exact (x_ld (v := .int .i64 (((waiI T i).T).now)) ty3 rfl rfl (hb24.cl.field (i := 1) rfl))) ?_
    refine RA.take (v := .pointer (some ⟨b_31, 2, none⟩)) 4 rfl (by kernel_rfl) rfl (by rintro _ rfl; exact (x_fld (o' := 2) Try.underlying98 rfl ty3 rfl rfl rfl)) ?_
    refine RA.take (v := .int .i64 ((p).since)) 5 rfl (by kernel_rfl) rfl (by rintro _ rfl; exact (x_ld (v := .int .i64 ((p).since)) ty3 rfl rfl (hb_34.cl.field (i := 2) rfl))) ?_
    refine RA.take (v := .int .i64 ((((waiI T i).T).now) - ((p).since))) 6 rfl (by kernel_rfl) rfl (by rintro _ rfl; exact (x_sub rfl rfl (by omega) (by omega))) ?_
    refine RA.take (v := .bool (decide (((((waiI T i).T).now) - ((p).since)) < 50))) 7 rfl (by kernel_rfl) rfl (by rintro _ rfl; exact (x_ltI rfl rfl)) ?_
    refine RA.done (by kernel_rfl) ?_
    refine Run.cond rfl (fun hc36 => ?_) (fun hc36 => ?_)
    · try simp only [br] at hc36
      refine Run.seq ?_
      refine Run.region ?_
      refine RL.val (x_moveSl rfl) ?_
      refine RL.val (x_lds (cs := #[.int .i64 ((p).target), .int .i64 ((p).req), .int .i64 ((p).since), .bool ((p).others)]) ty98 rfl rfl (hb_34.cl.drop 0 4)) ?_
      refine RL.st rfl <| St1.buildSlice ([p] : List Ping) Try.underlying92 ty98 rfl rfl (by first | decide | (simp [Enc.size])) ?_
      intro b_47 w_48 hl_51 ho_50 K_49
      have pr_52 : ∀ q_, own (some ⟨b_47, 0, none⟩) q_ → ¬ own at1 q_ := apartNew (ge_new hl_51) ho_4.own_lt
      have pr_53 : ∀ q_, own (some ⟨b_47, 0, none⟩) q_ → ¬ own at2 q_ := apartNew (ge_new hl_51) ho_5.own_lt
      have pr_54 : ∀ q_, own (some ⟨b_47, 0, none⟩) q_ → ¬ own at3 q_ := apartNew (ge_new hl_51) ho_6.own_lt
      have pr_55 : ¬ own (some ⟨b_47, 0, none⟩) b := notNew (ge_new hl_51) hb24.lt
      have pr_56 : ∀ q_, own (some ⟨b_47, 0, none⟩) q_ → ¬ own aLb q_ := apartNew (ge_new hl_51) hoL24.own_lt
      have pr_57 : ∀ q_, own (some ⟨b_47, 0, none⟩) q_ → ¬ own aPb q_ := apartNew (ge_new hl_51) hoP24.own_lt
      have pr_58 : ¬ own (some ⟨b_47, 0, none⟩) b_31 := notNew (ge_new hl_51) hb_34.lt
      have pg_59 : ∀ q_, own (some ⟨b_47, 0, none⟩) q_ → q_ < w.heap.size → (rtabS b aL aP) q_ := fun q_ h hlt => absurd (Nat.le_trans K0.size ((ge_new hl_51) q_ h)) (by omega)
      have pw_60 : ∀ q_, own (some ⟨b_47, 0, none⟩) q_ → w.heap.size ≤ q_ := fun q_ h => Nat.le_trans K0.size ((ge_new hl_51) q_ h)
      clear hl_51
      replace ho_4 := ho_4.ext K_49
      replace ho_5 := ho_5.ext K_49
      replace ho_6 := ho_6.ext K_49
      replace hb24 := hb24.ext K_49
      replace hoL24 := hoL24.ext K_49
      replace hoP24 := hoP24.ext K_49
      replace hb_34 := hb_34.ext K_49
      replace K0 := K0.ext K_49
      refine RL.st rfl <| St1.append (xs := (waiI T i).left) (ys := ([p] : List Ping)) Try.underlying92 ty98 rfl rfl rfl ho_6 ho_50.sl (by first | omega | (simp only [lr]; omega)) (by decide) ?_
      intro a_61 c_62 w_63 ho_64 K_65 hm_66 hrm_67
      have pr_68 : ∀ q_, own a_61 q_ → ¬ own at1 q_ := hm_66.apart (fun q_ h1 h2 => pr_12 q_ h2 h1) ho_4.own_lt
      have pr_69 : ∀ q_, own a_61 q_ → ¬ own at2 q_ := hm_66.apart (fun q_ h1 h2 => pr_14 q_ h2 h1) ho_5.own_lt
      have pr_70 : ¬ own a_61 b := hm_66.not (fun h2 => pr_9 _ (.inl rfl) h2) hb24.lt
      have pr_71 : ∀ q_, own a_61 q_ → ¬ own aLb q_ := hm_66.apart (fun q_ h1 h2 => (fun q_ h1 h2 => pr_9 q_ (.inr (.inl h1)) h2) q_ h2 h1) hoL24.own_lt
      have pr_72 : ∀ q_, own a_61 q_ → ¬ own aPb q_ := hm_66.apart (fun q_ h1 h2 => (fun q_ h1 h2 => pr_9 q_ (.inr (.inr h1)) h2) q_ h2 h1) hoP24.own_lt
      have pr_73 : ¬ own a_61 b_31 := hm_66.not pr_40 hb_34.lt
      have pr_74 : ∀ q_, own a_61 q_ → ¬ own (some ⟨b_47, 0, none⟩) q_ := hm_66.apart (fun q_ h1 h2 => pr_54 q_ h2 h1) ho_50.own_lt
      have pg_75 : ∀ q_, own a_61 q_ → q_ < w.heap.size → (rtabS b aL aP) q_ := hm_66.inS pr_16 K0.size
      have pw_76 : ∀ q_, own a_61 q_ → w.heap.size ≤ q_ := hm_66.ge pr_19 K0.size
      replace ho_4 := ho_4.keepO K_65 pr_12
      replace ho_5 := ho_5.keepO K_65 pr_14
      replace hb24 := hb24.keep K_65 (fun h2 => pr_9 _ (.inl rfl) h2)
      replace hoL24 := hoL24.keepO K_65 (fun q_ h1 h2 => pr_9 q_ (.inr (.inl h1)) h2)
      replace hoP24 := hoP24.keepO K_65 (fun q_ h1 h2 => pr_9 q_ (.inr (.inr h1)) h2)
      replace hb_34 := hb_34.keep K_65 pr_40
      replace ho_50 := ho_50.keepO K_65 pr_54
      replace K0 := K0.trans K_65 (fun x hlt hx => pr_16 x hx hlt)
      clear hm_66
      clear hrm_67
      refine RL.val (x_assignSl rfl) ?_
      refine RL.nil ?_
      refine Run.exit rfl ?_
      refine Run.region ?_
      refine RL.val (x_moveI rfl) ?_
      refine RL.val (litI (c := ((i + 1 : Nat) : Int)) (x_add rfl rfl (by omega) (by omega)) rfl) ?_
      refine RL.val (x_assignI rfl) ?_
      refine RL.nil ?_
      have hR_77 : RTabAt w_63 b aLb cLb aPb cPb ((waiI T i).T) := ⟨hb24, hoL24, hoP24, hapL24, hapP24, hapLP24, ok24, nv24⟩
      have pt_78 : ∀ q_, rtabS b aLb aPb q_ → ¬ own at1 q_ := (fun q_ h1 h2 => h1.elim (fun e => (fun h2 => pr_7 _ (.inl rfl) h2) (e ▸ h2)) (fun h1 => h1.elim (fun h => (fun q_ h1 h2 => pr_7 q_ (.inr (.inl h1)) h2) q_ h h2) (fun h => (fun q_ h1 h2 => pr_7 q_ (.inr (.inr h1)) h2) q_ h h2)))
      have pt_79 : ∀ q_, rtabS b aLb aPb q_ → ¬ own at2 q_ := (fun q_ h1 h2 => h1.elim (fun e => (fun h2 => pr_8 _ (.inl rfl) h2) (e ▸ h2)) (fun h1 => h1.elim (fun h => (fun q_ h1 h2 => pr_8 q_ (.inr (.inl h1)) h2) q_ h h2) (fun h => (fun q_ h1 h2 => pr_8 q_ (.inr (.inr h1)) h2) q_ h h2)))
      have pt_80 : ¬ rtabS b aLb aPb b_31 := (fun h1 => h1.elim (fun e => absurd e (by omega)) (fun h1 => h1.elim (fun h => pr_41 h) (fun h => pr_42 h)))
      have pt_81 : ∀ q_, rtabS b aLb aPb q_ → ¬ own (some ⟨b_47, 0, none⟩) q_ := (fun q_ h1 h2 => h1.elim (fun e => pr_55 (e ▸ h2)) (fun h1 => h1.elim (fun h => (fun q_ h1 h2 => pr_56 q_ h2 h1) q_ h h2) (fun h => (fun q_ h1 h2 => pr_57 q_ h2 h1) q_ h h2)))
      have pt_82 : ∀ q_, rtabS b aLb aPb q_ → ¬ own a_61 q_ := (fun q_ h1 h2 => h1.elim (fun e => pr_70 (e ▸ h2)) (fun h1 => h1.elim (fun h => (fun q_ h1 h2 => pr_71 q_ h2 h1) q_ h h2) (fun h => (fun q_ h1 h2 => pr_72 q_ h2 h1) q_ h h2)))
      have pt_83 : ∀ q_, rtabS b aLb aPb q_ → q_ < w.heap.size → (rtabS b aL aP) q_ := (fun q_ h1 hlt => h1.elim (fun e => e ▸ (Or.inl rfl)) (fun h1 => h1.elim (fun h => (fun q_ h1 hlt => pr_10 q_ (.inr (.inl h1)) hlt) q_ h hlt) (fun h => (fun q_ h1 hlt => pr_10 q_ (.inr (.inr h1)) hlt) q_ h hlt)))
      clear hb24 hoL24 hoP24
      have e : waiI T (i + 1) = _ := (waiI_succ hx').trans (wai1_left hc36)
      refine ih1 (i + 1) _ _ ?_ (by omega)
      rw [e]
      refine ⟨_, _, _, _, _, _, _, _, _, _, ⟨rfl, rfl, rfl, rfl, rfl, trivial⟩, K0, hR_77, ho_4, ho_5, ho_64, pt_78, pt_79, pt_82, pt_83, pr_11, (fun q_ h1 h2 => pr_68 q_ h2 h1), pr_13, (fun q_ h1 h2 => pr_69 q_ h2 h1), pr_15, pg_75, pr_17, pr_18, pw_76, ?_⟩
      · omega
    · try simp only [br] at hc36
      refine Run.skip ?_
      refine Run.seq ?_
      refine Run.seq ?_
      refine Run.region ?_
      refine RL.val (x_fld (o' := 3) Try.underlying98 rfl ty4 rfl rfl rfl) ?_
      refine RL.val (x_ld (v := .bool ((p).others)) ty4 rfl rfl (hb_34.cl.field (i := 3) rfl)) ?_
      refine RL.val (x_not rfl) ?_
      refine RL.nil ?_
      refine Run.cond rfl (fun hc43 => ?_) (fun hc43 => ?_)
      · try simp only [br] at hc43
        refine Run.seq ?_
        refine Run.region ?_
        refine RL.val (x_assignI rfl) ?_
        refine RL.nil ?_
        refine Run.seq ?_
        refine Run.seq ?_
        refine Run.region ?_
        refine RL.val (x_assignI rfl) ?_
        refine RL.nil ?_
        refine Run.block ?_
        refine Run.loop (ι := Nat) (fun j ρ' w' => ∃ am : Option Addr, ∃ cm : Nat, Holds ρ' [(0, .pointer (some ⟨b, 0, none⟩)), (4, .slice (am) (((waiI T i).out ++ asks (waiI T i).T p (tf (othR (waiI T i).T p.target) [] (knownL (waiI T i).T.l) j)).length) (cm)), (5, .slice (at2) (((waiI T i).told).length) (ct2)), (6, .slice (at3) (((waiI T i).left).length) (ct3)), (7, .int .i64 (((i : Nat) : Int))), (8, .pointer (some ⟨b_31, 0, none⟩)), (9, .int .i64 ((((tf (othR (waiI T i).T p.target) [] (knownL (waiI T i).T.l) j).length : Nat) : Int))), (10, .int .i64 (((j : Nat) : Int))), (13, .int .i64 (((i : Nat) : Int))), (14, .pointer (some ⟨b, 0, none⟩)), (15, .pointer (some ⟨b, 0, none⟩)), (16, .pointer (some ⟨b, 3, none⟩)), (17, .slice (aPb) (((waiI T i).T).pings.length) (cPb)), (18, .int .i64 (((((waiI T i).T).pings.length : Nat) : Int))), (19, .bool (decide (((i : Nat) : Int) < ((((waiI T i).T).pings.length : Nat) : Int))))] ∧ Keeps (rtabS b aL aP) w w' ∧ (Blk w' b [.int .i64 (((waiI T i).T).self), .int .i64 (((waiI T i).T).now), .slice (aLb) ((knownL ((waiI T i).T).l).length) (cLb), .slice (aPb) (((waiI T i).T).pings.length) (cPb), .int .i64 (((waiI T i).T).req), .bool (((waiI T i).T).begun), .int .i64 (((waiI T i).T).last), .int .i64 (((waiI T i).T).target)] 94) ∧ (Blk w' b_31 [.int .i64 ((p).target), .int .i64 ((p).req), .int .i64 ((p).since), .bool ((p).others)] 98) ∧ (OwnSl w' 23 (at2) (ct2) ((waiI T i).told)) ∧ (OwnSl w' 98 (at3) (ct3) ((waiI T i).left)) ∧ (OwnSl w' 90 (aLb) (cLb) (knownL ((waiI T i).T).l)) ∧ (OwnSl w' 98 (aPb) (cPb) (((waiI T i).T).pings)) ∧ (OwnSl w' 61 am cm ((waiI T i).out ++ asks (waiI T i).T p (tf (othR (waiI T i).T p.target) [] (knownL (waiI T i).T.l) j))) ∧ (¬ own am b) ∧ (¬ own am b_31) ∧ (∀ q_, own am q_ → ¬ own at2 q_) ∧ (∀ q_, own am q_ → ¬ own at3 q_) ∧ (∀ q_, own am q_ → ¬ own aLb q_) ∧ (∀ q_, own am q_ → ¬ own aPb q_) ∧ (∀ q_, own am q_ → q_ < w.heap.size → (rtabS b aL aP) q_) ∧ (∀ q_, own am q_ → w.heap.size ≤ q_) ∧ (j ≤ (knownL (waiI T i).T.l).length)) (fun j => (knownL (waiI T i).T.l).length - j) 0 ?_ ?_
        · rw [tf_zero, show asks (waiI T i).T p [] = [] from rfl, List.append_nil]
          refine ⟨_, _, ⟨rfl, rfl, rfl, rfl, rfl, rfl, rfl, rfl, rfl, rfl, rfl, rfl, rfl, rfl, rfl, trivial⟩, K0, hb24, hb_34, ho_5, ho_6, hoL24, hoP24, ho_4, (fun h2 => pr_7 _ (.inl rfl) h2), pr_38, pr_11, pr_12, (fun q_ h1 h2 => (fun q_ h1 h2 => pr_7 q_ (.inr (.inl h1)) h2) q_ h2 h1), (fun q_ h1 h2 => (fun q_ h1 h2 => pr_7 q_ (.inr (.inr h1)) h2) q_ h2 h1), pr_13, pr_17, ?_⟩
          · omega
        clear ho_4 ho_5 ho_6 hb24 hoL24 hoP24 hb_34
        clear K0
        rintro j ρ_95 w_84 ⟨am, cm, hH_85, K0, hb24, hb_34, ho_5, ho_6, hoL24, hoP24, ho_86, pr_87, pr_88, pr_89, pr_90, pr_91, pr_92, pr_93, pr_94, hj⟩ ih2
        obtain ⟨ρ₀, rfl⟩ := hH_85.ex
        clear hH_85
        refine Run.seq ?_
        refine Run.seq ?_
        have hol := othR_len (waiI T i).T p.target (knownL (waiI T i).T.l) j (by omega)
        have hal := asks_len (waiI T i).T p (tf (othR (waiI T i).T p.target) [] (knownL (waiI T i).T.l) j)
        refine Run.region ?_
        refine RL.val (x_moveI rfl) ?_
        refine RL.val (x_moveP rfl) ?_
        refine RL.val (x_nilCheck rfl) ?_
        refine RL.val (x_fld (o' := 2) Try.underlying94 rfl ty91 rfl rfl rfl) ?_
        refine RL.val (x_ld (v := .slice (aLb) ((knownL ((waiI T i).T).l).length) (cLb)) ty91 rfl rfl (hb24.cl.field (i := 2) rfl)) ?_
        refine RL.val (x_lenSl Try.underlying91 rfl) ?_
        refine RL.val (x_ltI rfl rfl) ?_
        refine RL.nil ?_
        refine Run.cond rfl (fun hc50 => ?_) (fun hc50 => ?_)
        · try simp only [br] at hc50
          refine Run.skip ?_
          refine Run.seq ?_
          refine Run.block ?_
          refine Run.seq ?_
          refine Run.region ?_
          refine RL.val (x_moveP rfl) ?_
          refine RL.val (x_nilCheck rfl) ?_
          refine RL.val (x_fld (o' := 2) Try.underlying94 rfl ty91 rfl rfl rfl) ?_
          refine RL.val (x_ld (v := .slice (aLb) ((knownL ((waiI T i).T).l).length) (cLb)) ty91 rfl rfl (hb24.cl.field (i := 2) rfl)) ?_
          refine RL.val (x_moveI rfl) ?_
          obtain ⟨b_96, o_97, z, hz, ha_98, hc_99⟩ := hoL24.sl.el (i := j) (by first | omega | (simp only [List.length_set]; omega))
          refine RL.val (x_idxN Try.underlying91 ty90 rfl rfl ha_98 (by first | omega | (simp only [List.length_set]; omega))) ?_
          refine RL.val (x_fld (o' := o_97 + j * 4 + 0) Try.underlying90 rfl ty23 rfl rfl rfl) ?_
          refine RL.val (x_fld (o' := o_97 + j * 4 + 0 + 0) Try.underlying23 rfl ty3 rfl rfl rfl) ?_
          refine RL.val (x_ld ty3 rfl rfl (hc_99.field (i := 0) rfl)) ?_
          refine RL.val (x_assignI rfl) ?_
          refine RL.nil ?_
          refine Run.seq ?_
          refine Run.region ?_
          refine RL.val (x_moveI rfl) ?_
          refine RL.val (x_ltI rfl rfl) ?_
          refine RL.val (x_moveB rfl) ?_
          refine RL.gval (wantedT rfl rfl rfl rfl) (fun hg => (x_moveI rfl)) ?_
          refine RL.gval (wantedT rfl rfl rfl rfl) (fun hg => (x_moveP rfl)) ?_
          refine RL.gval (wantedT rfl rfl rfl rfl) (fun hg => (x_nilCheck (gvr hg))) ?_
          refine RL.gval (wantedT rfl rfl rfl rfl) (fun hg => (x_fld (o' := 0) Try.underlying94 rfl ty3 rfl (gvr hg) rfl)) ?_
          refine RL.gval (wantedT rfl rfl rfl rfl) (fun hg => (x_ld (v := .int .i64 (((waiI T i).T).self)) ty3 (gvr hg) rfl (hb24.cl.field (i := 0) rfl))) ?_
          refine RL.gval (wantedT rfl rfl rfl rfl) (fun hg => (x_neI (gvr hg) (gvr hg))) ?_
          refine RL.val (x_and rfl rfl rfl) ?_
          refine RL.val (x_moveB rfl) ?_
          refine RL.gval (wantedT rfl rfl rfl rfl) (fun hg => (x_moveI rfl)) ?_
          refine RL.gval (wantedT rfl rfl rfl rfl) (fun hg => (x_fld (o' := 0) Try.underlying98 rfl ty3 rfl rfl rfl)) ?_
          refine RL.gval (wantedT rfl rfl rfl rfl) (fun hg => (x_ld (v := .int .i64 ((p).target)) ty3 (gvr hg) rfl (hb_34.cl.field (i := 0) rfl))) ?_
          refine RL.gval (wantedT rfl rfl rfl rfl) (fun hg => (x_neI (gvr hg) (gvr hg))) ?_
          refine RL.val (x_and rfl rfl rfl) ?_
          refine RL.val (x_moveB rfl) ?_
          refine RL.gval (wantedT rfl rfl rfl rfl) (fun hg => (x_moveP rfl)) ?_
          refine RL.gval (wantedT rfl rfl rfl rfl) (fun hg => (x_nilCheck (gvr hg))) ?_
          refine RL.gval (wantedT rfl rfl rfl rfl) (fun hg => (x_fld (o' := 2) Try.underlying94 rfl ty91 rfl (gvr hg) rfl)) ?_
          refine RL.gval (wantedT rfl rfl rfl rfl) (fun hg => (x_ld (v := .slice (aLb) ((knownL ((waiI T i).T).l).length) (cLb)) ty91 (gvr hg) rfl (hb24.cl.field (i := 2) rfl))) ?_
          refine RL.gval (wantedT rfl rfl rfl rfl) (fun hg => (x_moveI rfl)) ?_
          obtain ⟨b_102, o_103, x_106, hx_107, ha_104, hc_105⟩ := hoL24.sl.el (i := j) (by first | omega | (simp only [List.length_set]; omega))
          obtain rfl : z = x_106 := Option.some.inj (hz.symm.trans hx_107)
          refine RL.gval (wantedT rfl rfl rfl rfl) (fun hg => (x_idxN Try.underlying91 ty90 (gvr hg) (gvr hg) ha_104 (by first | omega | (simp only [List.length_set]; omega)))) ?_
          refine RL.gval (wantedT rfl rfl rfl rfl) (fun hg => (x_fld (o' := o_103 + j * 4 + 0) Try.underlying90 rfl ty23 rfl (gvr hg) rfl)) ?_
          refine RL.gval (wantedT rfl rfl rfl rfl) (fun hg => (x_fld (o' := o_103 + j * 4 + 0 + 2) Try.underlying23 rfl ty3 rfl (gvr hg) rfl)) ?_
          refine RL.gval (wantedT rfl rfl rfl rfl) (fun hg => (x_ld ty3 (gvr hg) rfl (hc_105.field (i := 2) rfl))) ?_
          refine RL.gval (wantedT rfl rfl rfl rfl) (fun hg => (x_eqI (gvr hg) rfl)) ?_
          refine RL.val (x_and rfl rfl rfl) ?_
          refine RL.nil ?_
          refine Run.cond rfl (fun hc89 => ?_) (fun hc89 => ?_)
          · try simp only [br] at hc89
            refine Run.seq ?_
            refine Run.region ?_
            refine RL.val (x_moveSl rfl) ?_
            refine RL.val (x_moveP rfl) ?_
            refine RL.val (x_moveI rfl) ?_
            refine RL.val (x_fld (o' := 1) Try.underlying98 rfl ty3 rfl rfl rfl) ?_
            refine RL.val (x_ld (v := .int .i64 ((p).req)) ty3 rfl rfl (hb_34.cl.field (i := 1) rfl)) ?_
            refine RL.val (x_fld (o' := 0) Try.underlying98 rfl ty3 rfl rfl rfl) ?_
            refine RL.val (x_ld (v := .int .i64 ((p).target)) ty3 rfl rfl (hb_34.cl.field (i := 0) rfl)) ?_
            refine RL.st rfl <| St1.call (vals := [.pointer (some ⟨b, 0, none⟩), .int .i64 (((z).peer).node), .int .i64 ((p).req), .int .i64 ((p).target), .int .i64 (-1)]) en54 rfl (sendR_ _ _ _ _ _ ((waiI T i).T) (((z).peer).node) ((p).req) ((p).target) (-1) _ hb24 hoL24.sl hoP24.sl ok24) ?_
            rintro _ w_108 ⟨rfl, K_109⟩
            replace hb24 := hb24.ext K_109
            replace hb_34 := hb_34.ext K_109
            replace ho_5 := ho_5.ext K_109
            replace ho_6 := ho_6.ext K_109
            replace hoL24 := hoL24.ext K_109
            replace hoP24 := hoP24.ext K_109
            replace ho_86 := ho_86.ext K_109
            replace K0 := K0.ext K_109
            refine RL.st rfl <| St1.buildSlice ([mkMsg 6 ((waiI T i).T).self (((z).peer).node) ((p).req) ((p).target) (-1)] : List MsgC) Try.underlying34 ty61 rfl rfl (by first | decide | (simp [Enc.size])) ?_
            intro b_110 w_111 hl_114 ho_113 K_112
            have pr_115 : ¬ own (some ⟨b_110, 0, none⟩) b := notNew (ge_new hl_114) hb24.lt
            have pr_116 : ¬ own (some ⟨b_110, 0, none⟩) b_31 := notNew (ge_new hl_114) hb_34.lt
            have pr_117 : ∀ q_, own (some ⟨b_110, 0, none⟩) q_ → ¬ own at2 q_ := apartNew (ge_new hl_114) ho_5.own_lt
            have pr_118 : ∀ q_, own (some ⟨b_110, 0, none⟩) q_ → ¬ own at3 q_ := apartNew (ge_new hl_114) ho_6.own_lt
            have pr_119 : ∀ q_, own (some ⟨b_110, 0, none⟩) q_ → ¬ own aLb q_ := apartNew (ge_new hl_114) hoL24.own_lt
            have pr_120 : ∀ q_, own (some ⟨b_110, 0, none⟩) q_ → ¬ own aPb q_ := apartNew (ge_new hl_114) hoP24.own_lt
            have pr_121 : ∀ q_, own (some ⟨b_110, 0, none⟩) q_ → ¬ own am q_ := apartNew (ge_new hl_114) ho_86.own_lt
            have pg_122 : ∀ q_, own (some ⟨b_110, 0, none⟩) q_ → q_ < w.heap.size → (rtabS b aL aP) q_ := fun q_ h hlt => absurd (Nat.le_trans K0.size ((ge_new hl_114) q_ h)) (by omega)
            have pw_123 : ∀ q_, own (some ⟨b_110, 0, none⟩) q_ → w.heap.size ≤ q_ := fun q_ h => Nat.le_trans K0.size ((ge_new hl_114) q_ h)
            clear hl_114
            replace hb24 := hb24.ext K_112
            replace hb_34 := hb_34.ext K_112
            replace ho_5 := ho_5.ext K_112
            replace ho_6 := ho_6.ext K_112
            replace hoL24 := hoL24.ext K_112
            replace hoP24 := hoP24.ext K_112
            replace ho_86 := ho_86.ext K_112
            replace K0 := K0.ext K_112
            refine RL.st rfl <| St1.append (xs := (waiI T i).out ++ asks (waiI T i).T p (tf (othR (waiI T i).T p.target) [] (knownL (waiI T i).T.l) j)) (ys := ([mkMsg 6 ((waiI T i).T).self (((z).peer).node) ((p).req) ((p).target) (-1)] : List MsgC)) Try.underlying34 ty61 rfl rfl rfl ho_86 ho_113.sl (by first | omega | (simp only [lr]; omega)) (by decide) ?_
            intro a_124 c_125 w_126 ho_127 K_128 hm_129 hrm_130
            have pr_131 : ¬ own a_124 b := hm_129.not pr_87 hb24.lt
            have pr_132 : ¬ own a_124 b_31 := hm_129.not pr_88 hb_34.lt
            have pr_133 : ∀ q_, own a_124 q_ → ¬ own at2 q_ := hm_129.apart pr_89 ho_5.own_lt
            have pr_134 : ∀ q_, own a_124 q_ → ¬ own at3 q_ := hm_129.apart pr_90 ho_6.own_lt
            have pr_135 : ∀ q_, own a_124 q_ → ¬ own aLb q_ := hm_129.apart pr_91 hoL24.own_lt
            have pr_136 : ∀ q_, own a_124 q_ → ¬ own aPb q_ := hm_129.apart pr_92 hoP24.own_lt
            have pr_137 : ∀ q_, own a_124 q_ → ¬ own (some ⟨b_110, 0, none⟩) q_ := hm_129.apart (fun q_ h1 h2 => pr_121 q_ h2 h1) ho_113.own_lt
            have pg_138 : ∀ q_, own a_124 q_ → q_ < w.heap.size → (rtabS b aL aP) q_ := hm_129.inS pr_93 K0.size
            have pw_139 : ∀ q_, own a_124 q_ → w.heap.size ≤ q_ := hm_129.ge pr_94 K0.size
            replace hb24 := hb24.keep K_128 pr_87
            replace hb_34 := hb_34.keep K_128 pr_88
            replace ho_5 := ho_5.keepO K_128 (fun q_ h1 h2 => pr_89 q_ h2 h1)
            replace ho_6 := ho_6.keepO K_128 (fun q_ h1 h2 => pr_90 q_ h2 h1)
            replace hoL24 := hoL24.keepO K_128 (fun q_ h1 h2 => pr_91 q_ h2 h1)
            replace hoP24 := hoP24.keepO K_128 (fun q_ h1 h2 => pr_92 q_ h2 h1)
            replace ho_113 := ho_113.keepO K_128 pr_121
            replace K0 := K0.trans K_128 (fun x hlt hx => pr_93 x hx hlt)
            clear hm_129
            clear hrm_130
            refine RL.val (x_assignSl rfl) ?_
            refine RL.nil ?_
            refine Run.region ?_
            refine RL.val (x_moveI rfl) ?_
            refine RL.val (litI (c := ((((tf (othR (waiI T i).T p.target) [] (knownL (waiI T i).T.l) j).length) + 1 : Nat) : Int)) (x_add rfl rfl (by omega) (by omega)) rfl) ?_
            refine RL.val (x_assignI rfl) ?_
            refine RL.nil ?_
            refine Run.inBlock ?_
            refine Run.region ?_
            refine RL.val (x_moveI rfl) ?_
            refine RL.val (litI (c := ((j + 1 : Nat) : Int)) (x_add rfl rfl (by omega) (by omega)) rfl) ?_
            refine RL.val (x_assignI rfl) ?_
            refine RL.nil ?_
            have e := (tf_succ (f := othR (waiI T i).T p.target) (s := []) hz).trans (othR_yes (by omega))
            refine ih2 (j + 1) _ _ ?_ (by omega)
            rw [e, asks_one, ← List.append_assoc, show (tf (othR (waiI T i).T p.target) [] (knownL (waiI T i).T.l) j ++ [z.peer.node]).length = (tf (othR (waiI T i).T p.target) [] (knownL (waiI T i).T.l) j).length + 1 by simp]
            refine ⟨_, _, ⟨rfl, rfl, rfl, rfl, rfl, rfl, rfl, rfl, rfl, rfl, rfl, rfl, rfl, rfl, rfl, trivial⟩, K0, hb24, hb_34, ho_5, ho_6, hoL24, hoP24, ho_127, pr_131, pr_132, pr_133, pr_134, pr_135, pr_136, pg_138, pw_139, ?_⟩
            · omega
          · try simp only [br] at hc89
            refine Run.skip ?_
            refine Run.inBlock ?_
            refine Run.region ?_
            refine RL.val (x_moveI rfl) ?_
            refine RL.val (litI (c := ((j + 1 : Nat) : Int)) (x_add rfl rfl (by omega) (by omega)) rfl) ?_
            refine RL.val (x_assignI rfl) ?_
            refine RL.nil ?_
            have e := (tf_succ (f := othR (waiI T i).T p.target) (s := []) hz).trans (othR_no (by omega))
            refine ih2 (j + 1) _ _ ?_ (by omega)
            rw [e]
            refine ⟨_, _, ⟨rfl, rfl, rfl, rfl, rfl, rfl, rfl, rfl, rfl, rfl, rfl, rfl, rfl, rfl, rfl, trivial⟩, K0, hb24, hb_34, ho_5, ho_6, hoL24, hoP24, ho_86, pr_87, pr_88, pr_89, pr_90, pr_91, pr_92, pr_93, pr_94, ?_⟩
            · omega
        · try simp only [br] at hc50
          refine Run.exit rfl ?_
          refine Run.seq ?_
          have hjl : j = (knownL (waiI T i).T.l).length := by omega
          have hoa := othR_all hwo.ok p.target
          rw [← hjl] at hoa
          refine Run.region ?_
          refine RL.val (x_fld (o' := 3) Try.underlying98 rfl ty4 rfl rfl rfl) ?_
          refine RL.st rfl <| St1.store (v := .bool (true)) ty4 rfl rfl rfl (by simp [Value.cells, Value.oneCell']) hb_34 (by simp) ?_
          intro w_140 hb_34_ K_141
          have hb_34' : Blk w_140 b_31 [.int .i64 ((p).target), .int .i64 ((p).req), .int .i64 ((p).since), .bool (true)] 98 := hb_34_
          clear hb_34_
          replace hb24 := hb24.keep K_141 (by simp only [one]; omega)
          replace ho_5 := ho_5.keepO K_141 (fun q_ hq_ eq_ => pr_39 (by simp only [one] at eq_; rw [← eq_]; exact hq_))
          replace ho_6 := ho_6.keepO K_141 (fun q_ hq_ eq_ => pr_40 (by simp only [one] at eq_; rw [← eq_]; exact hq_))
          replace hoL24 := hoL24.keepO K_141 (fun q_ hq_ eq_ => pr_41 (by simp only [one] at eq_; rw [← eq_]; exact hq_))
          replace hoP24 := hoP24.keepO K_141 (fun q_ hq_ eq_ => pr_42 (by simp only [one] at eq_; rw [← eq_]; exact hq_))
          replace ho_86 := ho_86.keepO K_141 (fun q_ hq_ eq_ => pr_88 (by simp only [one] at eq_; rw [← eq_]; exact hq_))
          replace K0 := K0.trans K_141 (fun x hlt hx => absurd hlt (by simp only [one] at hx; omega))
          replace hb_34 := hb_34'
          clear hb_34'
          refine RL.nil ?_
          refine Run.seq ?_
          refine Run.region ?_
          refine RL.val (x_moveP rfl) ?_
          refine RL.val (x_nilCheck rfl) ?_
          refine RL.val (x_fld (o' := 1) Try.underlying94 rfl ty3 rfl rfl rfl) ?_
          refine RL.val (x_ld (v := .int .i64 (((waiI T i).T).now)) ty3 rfl rfl (hb24.cl.field (i := 1) rfl)) ?_
          refine RL.val (x_fld (o' := 2) Try.underlying98 rfl ty3 rfl rfl rfl) ?_
          refine RL.st rfl <| St1.store (v := .int .i64 (((waiI T i).T).now)) ty3 rfl rfl rfl (by simp [Value.cells, Value.oneCell']) hb_34 (by simp) ?_
          intro w_142 hb_34_ K_143
          have hb_34' : Blk w_142 b_31 [.int .i64 ((p).target), .int .i64 ((p).req), .int .i64 (((waiI T i).T).now), .bool (true)] 98 := hb_34_
          clear hb_34_
          replace hb24 := hb24.keep K_143 (by simp only [one]; omega)
          replace ho_5 := ho_5.keepO K_143 (fun q_ hq_ eq_ => pr_39 (by simp only [one] at eq_; rw [← eq_]; exact hq_))
          replace ho_6 := ho_6.keepO K_143 (fun q_ hq_ eq_ => pr_40 (by simp only [one] at eq_; rw [← eq_]; exact hq_))
          replace hoL24 := hoL24.keepO K_143 (fun q_ hq_ eq_ => pr_41 (by simp only [one] at eq_; rw [← eq_]; exact hq_))
          replace hoP24 := hoP24.keepO K_143 (fun q_ hq_ eq_ => pr_42 (by simp only [one] at eq_; rw [← eq_]; exact hq_))
          replace ho_86 := ho_86.keepO K_143 (fun q_ hq_ eq_ => pr_88 (by simp only [one] at eq_; rw [← eq_]; exact hq_))
          replace K0 := K0.trans K_143 (fun x hlt hx => absurd hlt (by simp only [one] at hx; omega))
          replace hb_34 := hb_34'
          clear hb_34'
          refine RL.nil ?_
          refine Run.seq ?_
          refine Run.region ?_
          refine RL.val (x_moveSl rfl) ?_
          refine RL.val (x_lds (cs := #[.int .i64 ((p).target), .int .i64 ((p).req), .int .i64 (((waiI T i).T).now), .bool (true)]) ty98 rfl rfl (hb_34.cl.drop 0 4)) ?_
          refine RL.st rfl <| St1.buildSlice ([(⟨(p).target, (p).req, ((waiI T i).T).now, true⟩ : Ping)] : List Ping) Try.underlying92 ty98 rfl rfl (by first | decide | (simp [Enc.size])) ?_
          intro b_144 w_145 hl_148 ho_147 K_146
          have pr_149 : ¬ own (some ⟨b_144, 0, none⟩) b := notNew (ge_new hl_148) hb24.lt
          have pr_150 : ¬ own (some ⟨b_144, 0, none⟩) b_31 := notNew (ge_new hl_148) hb_34.lt
          have pr_151 : ∀ q_, own (some ⟨b_144, 0, none⟩) q_ → ¬ own at2 q_ := apartNew (ge_new hl_148) ho_5.own_lt
          have pr_152 : ∀ q_, own (some ⟨b_144, 0, none⟩) q_ → ¬ own at3 q_ := apartNew (ge_new hl_148) ho_6.own_lt
          have pr_153 : ∀ q_, own (some ⟨b_144, 0, none⟩) q_ → ¬ own aLb q_ := apartNew (ge_new hl_148) hoL24.own_lt
          have pr_154 : ∀ q_, own (some ⟨b_144, 0, none⟩) q_ → ¬ own aPb q_ := apartNew (ge_new hl_148) hoP24.own_lt
          have pr_155 : ∀ q_, own (some ⟨b_144, 0, none⟩) q_ → ¬ own am q_ := apartNew (ge_new hl_148) ho_86.own_lt
          have pg_156 : ∀ q_, own (some ⟨b_144, 0, none⟩) q_ → q_ < w.heap.size → (rtabS b aL aP) q_ := fun q_ h hlt => absurd (Nat.le_trans K0.size ((ge_new hl_148) q_ h)) (by omega)
          have pw_157 : ∀ q_, own (some ⟨b_144, 0, none⟩) q_ → w.heap.size ≤ q_ := fun q_ h => Nat.le_trans K0.size ((ge_new hl_148) q_ h)
          clear hl_148
          replace hb24 := hb24.ext K_146
          replace hb_34 := hb_34.ext K_146
          replace ho_5 := ho_5.ext K_146
          replace ho_6 := ho_6.ext K_146
          replace hoL24 := hoL24.ext K_146
          replace hoP24 := hoP24.ext K_146
          replace ho_86 := ho_86.ext K_146
          replace K0 := K0.ext K_146
          refine RL.st rfl <| St1.append (xs := (waiI T i).left) (ys := ([(⟨(p).target, (p).req, ((waiI T i).T).now, true⟩ : Ping)] : List Ping)) Try.underlying92 ty98 rfl rfl rfl ho_6 ho_147.sl (by first | omega | (simp only [lr]; omega)) (by decide) ?_
          intro a_158 c_159 w_160 ho_161 K_162 hm_163 hrm_164
          have pr_165 : ¬ own a_158 b := hm_163.not (fun h2 => pr_9 _ (.inl rfl) h2) hb24.lt
          have pr_166 : ¬ own a_158 b_31 := hm_163.not pr_40 hb_34.lt
          have pr_167 : ∀ q_, own a_158 q_ → ¬ own at2 q_ := hm_163.apart (fun q_ h1 h2 => pr_14 q_ h2 h1) ho_5.own_lt
          have pr_168 : ∀ q_, own a_158 q_ → ¬ own aLb q_ := hm_163.apart (fun q_ h1 h2 => (fun q_ h1 h2 => pr_9 q_ (.inr (.inl h1)) h2) q_ h2 h1) hoL24.own_lt
          have pr_169 : ∀ q_, own a_158 q_ → ¬ own aPb q_ := hm_163.apart (fun q_ h1 h2 => (fun q_ h1 h2 => pr_9 q_ (.inr (.inr h1)) h2) q_ h2 h1) hoP24.own_lt
          have pr_170 : ∀ q_, own a_158 q_ → ¬ own am q_ := hm_163.apart (fun q_ h1 h2 => pr_90 q_ h2 h1) ho_86.own_lt
          have pr_171 : ∀ q_, own a_158 q_ → ¬ own (some ⟨b_144, 0, none⟩) q_ := hm_163.apart (fun q_ h1 h2 => pr_152 q_ h2 h1) ho_147.own_lt
          have pg_172 : ∀ q_, own a_158 q_ → q_ < w.heap.size → (rtabS b aL aP) q_ := hm_163.inS pr_16 K0.size
          have pw_173 : ∀ q_, own a_158 q_ → w.heap.size ≤ q_ := hm_163.ge pr_19 K0.size
          replace hb24 := hb24.keep K_162 (fun h2 => pr_9 _ (.inl rfl) h2)
          replace hb_34 := hb_34.keep K_162 pr_40
          replace ho_5 := ho_5.keepO K_162 pr_14
          replace hoL24 := hoL24.keepO K_162 (fun q_ h1 h2 => pr_9 q_ (.inr (.inl h1)) h2)
          replace hoP24 := hoP24.keepO K_162 (fun q_ h1 h2 => pr_9 q_ (.inr (.inr h1)) h2)
          replace ho_86 := ho_86.keepO K_162 pr_90
          replace ho_147 := ho_147.keepO K_162 pr_152
          replace K0 := K0.trans K_162 (fun x hlt hx => pr_16 x hx hlt)
          clear hm_163
          clear hrm_164
          refine RL.val (x_assignSl rfl) ?_
          refine RL.nil ?_
          refine Run.exit rfl ?_
          refine Run.region ?_
          refine RL.val (x_moveI rfl) ?_
          refine RL.val (litI (c := ((i + 1 : Nat) : Int)) (x_add rfl rfl (by omega) (by omega)) rfl) ?_
          refine RL.val (x_assignI rfl) ?_
          refine RL.nil ?_
          have hR_174 : RTabAt w_160 b aLb cLb aPb cPb ((waiI T i).T) := ⟨hb24, hoL24, hoP24, hapL24, hapP24, hapLP24, ok24, nv24⟩
          have pt_175 : ¬ rtabS b aLb aPb b_31 := (fun h1 => h1.elim (fun e => absurd e (by omega)) (fun h1 => h1.elim (fun h => pr_41 h) (fun h => pr_42 h)))
          have pt_176 : ∀ q_, rtabS b aLb aPb q_ → ¬ own at2 q_ := (fun q_ h1 h2 => h1.elim (fun e => (fun h2 => pr_8 _ (.inl rfl) h2) (e ▸ h2)) (fun h1 => h1.elim (fun h => (fun q_ h1 h2 => pr_8 q_ (.inr (.inl h1)) h2) q_ h h2) (fun h => (fun q_ h1 h2 => pr_8 q_ (.inr (.inr h1)) h2) q_ h h2)))
          have pt_177 : ∀ q_, rtabS b aLb aPb q_ → ¬ own am q_ := (fun q_ h1 h2 => h1.elim (fun e => pr_87 (e ▸ h2)) (fun h1 => h1.elim (fun h => (fun q_ h1 h2 => pr_91 q_ h2 h1) q_ h h2) (fun h => (fun q_ h1 h2 => pr_92 q_ h2 h1) q_ h h2)))
          have pt_178 : ∀ q_, rtabS b aLb aPb q_ → ¬ own (some ⟨b_144, 0, none⟩) q_ := (fun q_ h1 h2 => h1.elim (fun e => pr_149 (e ▸ h2)) (fun h1 => h1.elim (fun h => (fun q_ h1 h2 => pr_153 q_ h2 h1) q_ h h2) (fun h => (fun q_ h1 h2 => pr_154 q_ h2 h1) q_ h h2)))
          have pt_179 : ∀ q_, rtabS b aLb aPb q_ → ¬ own a_158 q_ := (fun q_ h1 h2 => h1.elim (fun e => pr_165 (e ▸ h2)) (fun h1 => h1.elim (fun h => (fun q_ h1 h2 => pr_168 q_ h2 h1) q_ h h2) (fun h => (fun q_ h1 h2 => pr_169 q_ h2 h1) q_ h h2)))
          have pt_180 : ∀ q_, rtabS b aLb aPb q_ → q_ < w.heap.size → (rtabS b aL aP) q_ := (fun q_ h1 hlt => h1.elim (fun e => e ▸ (Or.inl rfl)) (fun h1 => h1.elim (fun h => (fun q_ h1 hlt => pr_10 q_ (.inr (.inl h1)) hlt) q_ h hlt) (fun h => (fun q_ h1 hlt => pr_10 q_ (.inr (.inr h1)) hlt) q_ h hlt)))
          clear hb24 hoL24 hoP24
          have e : waiI T (i + 1) = _ := (waiI_succ hx').trans (wai1_ask (by omega) hc43)
          rw [hoa] at e
          refine ih1 (i + 1) _ _ ?_ (by omega)
          rw [e]
          refine ⟨_, _, _, _, _, _, _, _, _, _, ⟨rfl, rfl, rfl, rfl, rfl, trivial⟩, K0, hR_174, ho_86, ho_5, ho_161, pt_177, pt_176, pt_179, pt_180, pr_89, (fun q_ h1 h2 => pr_170 q_ h2 h1), pr_93, (fun q_ h1 h2 => pr_167 q_ h2 h1), pr_15, pg_172, pr_94, pr_18, pw_173, ?_⟩
          · omega
      · try simp only [br] at hc43
        refine Run.skip ?_
        refine Run.seq ?_
        refine Run.region ?_
        refine RL.val (x_moveP rfl) ?_
        refine RL.val (x_fld (o' := 0) Try.underlying98 rfl ty3 rfl rfl rfl) ?_
        refine RL.val (x_ld (v := .int .i64 ((p).target)) ty3 rfl rfl (hb_34.cl.field (i := 0) rfl)) ?_
        refine RL.st rfl <| St1.call (vals := [.pointer (some ⟨b, 0, none⟩), .int .i64 ((p).target)]) en49 rfl (findR_ _ _ _ _ _ ((waiI T i).T) ((p).target) _ hb24 hoL24.sl hoP24.sl ok24) ?_
        rintro _ w_181 ⟨rfl, K_182⟩
        replace ho_4 := ho_4.ext K_182
        replace ho_5 := ho_5.ext K_182
        replace ho_6 := ho_6.ext K_182
        replace hb24 := hb24.ext K_182
        replace hoL24 := hoL24.ext K_182
        replace hoP24 := hoP24.ext K_182
        replace hb_34 := hb_34.ext K_182
        replace K0 := K0.ext K_182
        refine RL.val (x_assignI rfl) ?_
        refine RL.nil ?_
        refine Run.seq ?_
        by_cases hfd : findI (fun x : KnownM => x.peer.node == ((p).target)) (knownL ((waiI T i).T).l) < 0
        · obtain ⟨k, hk, hks⟩ := find_neg hwo.ok (by omega) hfd
          refine Run.region ?_
          refine RL.val (x_moveI rfl) ?_
          refine RL.val (litF (x_geI rfl rfl) (decide_eq_false (by omega))) ?_
          refine RL.val (x_moveB rfl) ?_
          refine RL.guardF (wantedT0 rfl rfl rfl rfl) ?_
          refine RL.guardF (wantedT0 rfl rfl rfl rfl) ?_
          refine RL.guardF (wantedT0 rfl rfl rfl rfl) ?_
          refine RL.guardF (wantedT0 rfl rfl rfl rfl) ?_
          refine RL.guardF (wantedT0 rfl rfl rfl rfl) ?_
          refine RL.guardF (wantedT0 rfl rfl rfl rfl) ?_
          refine RL.guardF (wantedT0 rfl rfl rfl rfl) ?_
          refine RL.guardF (wantedT0 rfl rfl rfl rfl) ?_
          refine RL.guardF (wantedT0 rfl rfl rfl rfl) ?_
          refine RL.guardF (wantedT0 rfl rfl rfl rfl) ?_
          refine RL.val (x_and (b := false) (e := false) rfl rfl rfl) ?_
          refine RL.nil ?_
          refine Run.condF rfl ?_
          refine Run.skip ?_
          refine Run.inBlock ?_
          refine Run.region ?_
          refine RL.val (x_moveI rfl) ?_
          refine RL.val (litI (c := ((i + 1 : Nat) : Int)) (x_add rfl rfl (by omega) (by omega)) rfl) ?_
          refine RL.val (x_assignI rfl) ?_
          refine RL.nil ?_
          have hR_183 : RTabAt w_181 b aLb cLb aPb cPb ((waiI T i).T) := ⟨hb24, hoL24, hoP24, hapL24, hapP24, hapLP24, ok24, nv24⟩
          have pt_184 : ∀ q_, rtabS b aLb aPb q_ → ¬ own at1 q_ := (fun q_ h1 h2 => h1.elim (fun e => (fun h2 => pr_7 _ (.inl rfl) h2) (e ▸ h2)) (fun h1 => h1.elim (fun h => (fun q_ h1 h2 => pr_7 q_ (.inr (.inl h1)) h2) q_ h h2) (fun h => (fun q_ h1 h2 => pr_7 q_ (.inr (.inr h1)) h2) q_ h h2)))
          have pt_185 : ∀ q_, rtabS b aLb aPb q_ → ¬ own at2 q_ := (fun q_ h1 h2 => h1.elim (fun e => (fun h2 => pr_8 _ (.inl rfl) h2) (e ▸ h2)) (fun h1 => h1.elim (fun h => (fun q_ h1 h2 => pr_8 q_ (.inr (.inl h1)) h2) q_ h h2) (fun h => (fun q_ h1 h2 => pr_8 q_ (.inr (.inr h1)) h2) q_ h h2)))
          have pt_186 : ∀ q_, rtabS b aLb aPb q_ → ¬ own at3 q_ := (fun q_ h1 h2 => h1.elim (fun e => (fun h2 => pr_9 _ (.inl rfl) h2) (e ▸ h2)) (fun h1 => h1.elim (fun h => (fun q_ h1 h2 => pr_9 q_ (.inr (.inl h1)) h2) q_ h h2) (fun h => (fun q_ h1 h2 => pr_9 q_ (.inr (.inr h1)) h2) q_ h h2)))
          have pt_187 : ¬ rtabS b aLb aPb b_31 := (fun h1 => h1.elim (fun e => absurd e (by omega)) (fun h1 => h1.elim (fun h => pr_41 h) (fun h => pr_42 h)))
          have pt_188 : ∀ q_, rtabS b aLb aPb q_ → q_ < w.heap.size → (rtabS b aL aP) q_ := (fun q_ h1 hlt => h1.elim (fun e => e ▸ (Or.inl rfl)) (fun h1 => h1.elim (fun h => (fun q_ h1 hlt => pr_10 q_ (.inr (.inl h1)) hlt) q_ h hlt) (fun h => (fun q_ h1 hlt => pr_10 q_ (.inr (.inr h1)) hlt) q_ h hlt)))
          clear hb24 hoL24 hoP24
          have e : waiI T (i + 1) = _ := (waiI_succ hx').trans (wai1_no (by omega) hc43 hk (by omega))
          refine ih1 (i + 1) _ _ ?_ (by omega)
          rw [e]
          refine ⟨_, _, _, _, _, _, _, _, _, _, ⟨rfl, rfl, rfl, rfl, rfl, trivial⟩, K0, hR_183, ho_4, ho_5, ho_6, pt_184, pt_185, pt_186, pt_188, pr_11, pr_12, pr_13, pr_14, pr_15, pr_16, pr_17, pr_18, pr_19, ?_⟩
          · omega
        · obtain ⟨k, _, _, hk, hks, hfi, _⟩ := (statusL_find hwo.ok p.target).resolve_left (fun h => absurd h.1 hfd)
          rw [hfi]
          have hkx := known_get hk hks
          have hpo : posL (waiI T i).T.l (p.target).toNat < (knownL (waiI T i).T.l).length := (List.getElem?_eq_some_iff.1 hkx).1
          have hkn := (hwo.ok.known _ k hk).2.2 hks
          refine Run.region ?_
          refine RL.val (x_moveI rfl) ?_
          refine RL.val (litT (x_geI rfl rfl) (decide_eq_true (by omega))) ?_
          refine RL.val (x_moveB rfl) ?_
          refine RL.gst (wantedT1 rfl rfl rfl rfl) <| St1.val (x_moveP rfl) ?_
          refine RL.gst (wantedT1 rfl rfl rfl rfl) <| St1.val (x_nilCheck rfl) ?_
          refine RL.gst (wantedT1 rfl rfl rfl rfl) <| St1.val (x_fld (o' := 2) Try.underlying94 rfl ty91 rfl rfl rfl) ?_
          refine RL.gst (wantedT1 rfl rfl rfl rfl) <| St1.val (x_ld (v := .slice (aLb) ((knownL ((waiI T i).T).l).length) (cLb)) ty91 rfl rfl (hb24.cl.field (i := 2) rfl)) ?_
          refine RL.gst (wantedT1 rfl rfl rfl rfl) <| St1.val (x_moveI rfl) ?_
          obtain ⟨b_189, o_190, x_193, hx_194, ha_191, hc_192⟩ := hoL24.sl.el (i := posL (waiI T i).T.l (p.target).toNat) (by first | omega | (simp only [List.length_set]; omega))
          obtain rfl : k = x_193 := Option.some.inj (hkx.symm.trans hx_194)
          refine RL.gst (wantedT1 rfl rfl rfl rfl) <| St1.val (x_idxN Try.underlying91 ty90 rfl rfl ha_191 (by first | omega | (simp only [List.length_set]; omega))) ?_
          refine RL.gst (wantedT1 rfl rfl rfl rfl) <| St1.val (x_fld (o' := o_190 + posL (waiI T i).T.l (p.target).toNat * 4 + 0) Try.underlying90 rfl ty23 rfl rfl rfl) ?_
          refine RL.gst (wantedT1 rfl rfl rfl rfl) <| St1.val (x_fld (o' := o_190 + posL (waiI T i).T.l (p.target).toNat * 4 + 0 + 2) Try.underlying23 rfl ty3 rfl rfl rfl) ?_
          refine RL.gst (wantedT1 rfl rfl rfl rfl) <| St1.val (x_ld ty3 rfl rfl (hc_192.field (i := 2) rfl)) ?_
          refine RL.gst (wantedT1 rfl rfl rfl rfl) <| St1.val (x_eqI rfl rfl) ?_
          refine RL.val (x_andT rfl rfl rfl) ?_
          refine RL.nil ?_
          refine Run.cond rfl (fun hc129 => ?_) (fun hc129 => ?_)
          · try simp only [br] at hc129
            refine Run.seq ?_
            refine Run.region ?_
            refine RL.val (x_moveP rfl) ?_
            refine RL.val (x_nilCheck rfl) ?_
            refine RL.val (x_fld (o' := 2) Try.underlying94 rfl ty91 rfl rfl rfl) ?_
            refine RL.val (x_ld (v := .slice (aLb) ((knownL ((waiI T i).T).l).length) (cLb)) ty91 rfl rfl (hb24.cl.field (i := 2) rfl)) ?_
            refine RL.val (x_moveI rfl) ?_
            obtain ⟨b_195, o_196, x_199, hx_200, ha_197, hc_198⟩ := hoL24.sl.el (i := posL (waiI T i).T.l (p.target).toNat) (by first | omega | (simp only [List.length_set]; omega))
            obtain rfl : k = x_199 := Option.some.inj (hkx.symm.trans hx_200)
            refine RL.val (x_idxN Try.underlying91 ty90 rfl rfl ha_197 (by first | omega | (simp only [List.length_set]; omega))) ?_
            refine RL.val (x_fld (o' := o_196 + posL (waiI T i).T.l (p.target).toNat * 4 + 0) Try.underlying90 rfl ty23 rfl rfl rfl) ?_
            refine RL.val (x_fld (o' := o_196 + posL (waiI T i).T.l (p.target).toNat * 4 + 0 + 2) Try.underlying23 rfl ty3 rfl rfl rfl) ?_
            refine RL.st rfl <| St1.storeEl (v := .int .i64 (2)) (off := 2) (i := posL (waiI T i).T.l (p.target).toNat) (⟨(⟨k.peer.node, k.peer.inc, 2⟩ : Peer), k.since⟩ : KnownM) ty3 rfl rfl rfl (by simp [Value.cells, Value.oneCell']) hoL24 ha_197 hx_200 rfl (by decide) rfl ?_
            intro w_201 ho_203 K_202
            clear hc_198
            replace ho_4 := ho_4.keepO K_202 (fun q_ h1 h2 => (fun q_ h1 h2 => pr_7 q_ (.inr (.inl h1)) h2) q_ h2 h1)
            replace ho_5 := ho_5.keepO K_202 (fun q_ h1 h2 => (fun q_ h1 h2 => pr_8 q_ (.inr (.inl h1)) h2) q_ h2 h1)
            replace ho_6 := ho_6.keepO K_202 (fun q_ h1 h2 => (fun q_ h1 h2 => pr_9 q_ (.inr (.inl h1)) h2) q_ h2 h1)
            replace hb24 := hb24.keep K_202 hapL24
            replace hoP24 := hoP24.keepO K_202 (fun q_ h1 h2 => hapLP24 q_ h2 h1)
            replace hb_34 := hb_34.keep K_202 pr_41
            replace K0 := K0.trans K_202 (fun x hlt hx => (fun q_ h1 hlt => pr_10 q_ (.inr (.inl h1)) hlt) x hx hlt)
            replace hoL24 := ho_203
            clear ho_203
            rw [show (knownL ((waiI T i).T).l).length = ((knownL ((waiI T i).T).l).set (posL (waiI T i).T.l (p.target).toNat) (⟨(⟨k.peer.node, k.peer.inc, 2⟩ : Peer), k.since⟩ : KnownM)).length from (List.length_set ..).symm] at hb24
            refine RL.nil ?_
            refine Run.seq ?_
            obtain ⟨b_206, o_207, x_210, hx_211, ha_208, hc_209⟩ := hoL24.sl.el (i := posL (waiI T i).T.l (p.target).toNat) (by first | omega | (simp only [List.length_set]; omega))
            obtain rfl : (⟨(⟨k.peer.node, k.peer.inc, 2⟩ : Peer), k.since⟩ : KnownM) = x_210 := Option.some.inj ((get_set_self hx_200).symm.trans hx_211)
            refine Run.drawT [11] (m := 12) (by kernel_rfl) rfl ?_
            intro w_204 K_205
            replace ho_4 := ho_4.ext K_205
            replace ho_5 := ho_5.ext K_205
            replace ho_6 := ho_6.ext K_205
            replace hb24 := hb24.ext K_205
            replace hoL24 := hoL24.ext K_205
            replace hoP24 := hoP24.ext K_205
            replace hb_34 := hb_34.ext K_205
            replace hc_209 := hc_209.ext K_205
            replace K0 := K0.ext K_205
            refine ⟨fun w' => Blk w' b [.int .i64 (((waiI T i).T).self), .int .i64 (((waiI T i).T).now), .slice (aLb) (((knownL ((waiI T i).T).l).set (posL (waiI T i).T.l (p.target).toNat) (⟨(⟨k.peer.node, k.peer.inc, 2⟩ : Peer), k.since⟩ : KnownM)).length) (cLb), .slice (aPb) (((waiI T i).T).pings.length) (cPb), .int .i64 (((waiI T i).T).req), .bool (((waiI T i).T).begun), .int .i64 (((waiI T i).T).last), .int .i64 (((waiI T i).T).target)] 94 ∧ Cl w' b_206 (o_207 + posL (waiI T i).T.l (p.target).toNat * 4) (cellsOf (⟨(⟨k.peer.node, k.peer.inc, 2⟩ : Peer), k.since⟩ : KnownM)) ∧ True, ?_⟩
            refine RT.takeP (v := .pointer (some ⟨b, 0, none⟩)) 0 rfl (by kernel_rfl) (.inr ⟨hb24, hc_209, trivial⟩) (fun _ => (x_moveP rfl)) ?_
            refine RT.takeP (v := .pointer (some ⟨b, 0, none⟩)) 1 rfl (by kernel_rfl) (.inr ⟨hb24, hc_209, trivial⟩) (fun _ => (x_nilCheck rfl)) ?_
            refine RT.takeP (v := .pointer (some ⟨b, 2, none⟩)) 2 rfl (by kernel_rfl) (.inr ⟨hb24, hc_209, trivial⟩) (fun _ => (x_fld (o' := 2) Try.underlying94 rfl ty91 rfl rfl rfl)) ?_
            refine RT.take (v := .slice (aLb) (((knownL ((waiI T i).T).l).set (posL (waiI T i).T.l (p.target).toNat) (⟨(⟨k.peer.node, k.peer.inc, 2⟩ : Peer), k.since⟩ : KnownM)).length) (cLb)) 3 rfl (by kernel_rfl) ⟨hb24, hc_209, trivial⟩ (by rintro _ ⟨hb24, hc_209, -⟩; exact (x_ld (v := .slice (aLb) (((knownL ((waiI T i).T).l).set (posL (waiI T i).T.l (p.target).toNat) (⟨(⟨k.peer.node, k.peer.inc, 2⟩ : Peer), k.since⟩ : KnownM)).length) (cLb)) ty91 rfl rfl (hb24.cl.field (i := 2) rfl))) ?_
            refine RT.takeP (v := .int .i64 (((posL (waiI T i).T.l (p.target).toNat : Nat) : Int))) 4 rfl (by kernel_rfl) (.inr ⟨hb24, hc_209, trivial⟩) (fun _ => (x_moveI rfl)) ?_
            refine RT.takeP (v := .pointer (some ⟨b, 0, none⟩)) 5 rfl (by kernel_rfl) (.inr ⟨hb24, hc_209, trivial⟩) (fun _ => (x_moveP rfl)) ?_
            refine RT.takeP (v := .pointer (some ⟨b, 0, none⟩)) 6 rfl (by kernel_rfl) (.inr ⟨hb24, hc_209, trivial⟩) (fun _ => (x_nilCheck rfl)) ?_
            refine RT.takeP (v := .pointer (some ⟨b, 1, none⟩)) 7 rfl (by kernel_rfl) (.inr ⟨hb24, hc_209, trivial⟩) (fun _ => (x_fld (o' := 1) Try.underlying94 rfl ty3 rfl rfl rfl)) ?_
            refine RT.take (v := .int .i64 (((waiI T i).T).now)) 8 rfl (by kernel_rfl) ⟨hb24, hc_209, trivial⟩ (by rintro _ ⟨hb24, hc_209, -⟩; exact (x_ld (v := .int .i64 (((waiI T i).T).now)) ty3 rfl rfl (hb24.cl.field (i := 1) rfl))) ?_
            refine RT.takeP (v := .pointer (some ⟨b_206, o_207 + posL (waiI T i).T.l (p.target).toNat * 4, none⟩)) 9 rfl (by kernel_rfl) (.inr ⟨hb24, hc_209, trivial⟩) (fun _ => (x_idxN Try.underlying91 ty90 rfl rfl ha_208 (by first | omega | (simp only [List.length_set]; omega)))) ?_
            refine RT.takeP (v := .pointer (some ⟨b_206, o_207 + posL (waiI T i).T.l (p.target).toNat * 4 + 3, none⟩)) 10 rfl (by kernel_rfl) (.inr ⟨hb24, hc_209, trivial⟩) (fun _ => (x_fld (o' := o_207 + posL (waiI T i).T.l (p.target).toNat * 4 + 3) Try.underlying90 rfl ty3 rfl rfl rfl)) ?_
            refine RT.st 11 rfl (by kernel_rfl) rfl <| St1.storeEl (v := .int .i64 (((waiI T i).T).now)) (off := 3) (i := posL (waiI T i).T.l (p.target).toNat) (⟨(⟨k.peer.node, k.peer.inc, 2⟩ : Peer), ((waiI T i).T).now⟩ : KnownM) ty3 rfl rfl rfl (by simp [Value.cells, Value.oneCell']) hoL24 ha_208 hx_211 rfl (by decide) rfl ?_
            intro w_212 ho_214 K_213
            clear hc_209
            replace ho_4 := ho_4.keepO K_213 (fun q_ h1 h2 => (fun q_ h1 h2 => pr_7 q_ (.inr (.inl h1)) h2) q_ h2 h1)
            replace ho_5 := ho_5.keepO K_213 (fun q_ h1 h2 => (fun q_ h1 h2 => pr_8 q_ (.inr (.inl h1)) h2) q_ h2 h1)
            replace ho_6 := ho_6.keepO K_213 (fun q_ h1 h2 => (fun q_ h1 h2 => pr_9 q_ (.inr (.inl h1)) h2) q_ h2 h1)
            replace hb24 := hb24.keep K_213 hapL24
            replace hoP24 := hoP24.keepO K_213 (fun q_ h1 h2 => hapLP24 q_ h2 h1)
            replace hb_34 := hb_34.keep K_213 pr_41
            replace K0 := K0.trans K_213 (fun x hlt hx => (fun q_ h1 hlt => pr_10 q_ (.inr (.inl h1)) hlt) x hx hlt)
            replace hoL24 := ho_214
            clear ho_214
            rw [show ((knownL ((waiI T i).T).l).set (posL (waiI T i).T.l (p.target).toNat) (⟨(⟨k.peer.node, k.peer.inc, 2⟩ : Peer), k.since⟩ : KnownM)).length = (((knownL ((waiI T i).T).l).set (posL (waiI T i).T.l (p.target).toNat) (⟨(⟨k.peer.node, k.peer.inc, 2⟩ : Peer), k.since⟩ : KnownM)).set (posL (waiI T i).T.l (p.target).toNat) (⟨(⟨k.peer.node, k.peer.inc, 2⟩ : Peer), ((waiI T i).T).now⟩ : KnownM)).length from (List.length_set ..).symm] at hb24
            refine ⟨.inl (by kernel_rfl), ?_⟩
            refine RT.done (by kernel_rfl) ?_
            refine Run.region ?_
            refine RL.val (x_moveSl rfl) ?_
            refine RL.val (x_moveP rfl) ?_
            refine RL.val (x_nilCheck rfl) ?_
            refine RL.val (x_fld (o' := 2) Try.underlying94 rfl ty91 rfl rfl rfl) ?_
            refine RL.val (x_ld (v := .slice (aLb) ((((knownL ((waiI T i).T).l).set (posL (waiI T i).T.l (p.target).toNat) (⟨(⟨k.peer.node, k.peer.inc, 2⟩ : Peer), k.since⟩ : KnownM)).set (posL (waiI T i).T.l (p.target).toNat) (⟨(⟨k.peer.node, k.peer.inc, 2⟩ : Peer), ((waiI T i).T).now⟩ : KnownM)).length) (cLb)) ty91 rfl rfl (hb24.cl.field (i := 2) rfl)) ?_
            refine RL.val (x_moveI rfl) ?_
            obtain ⟨b_215, o_216, x_219, hx_220, ha_217, hc_218⟩ := hoL24.sl.el (i := posL (waiI T i).T.l (p.target).toNat) (by first | omega | (simp only [List.length_set]; omega))
            obtain rfl : (⟨(⟨k.peer.node, k.peer.inc, 2⟩ : Peer), ((waiI T i).T).now⟩ : KnownM) = x_219 := Option.some.inj ((get_set_self hx_211).symm.trans hx_220)
            refine RL.val (x_idxN Try.underlying91 ty90 rfl rfl ha_217 (by first | omega | (simp only [List.length_set]; omega))) ?_
            refine RL.val (x_fld (o' := o_216 + posL (waiI T i).T.l (p.target).toNat * 4 + 0) Try.underlying90 rfl ty23 rfl rfl rfl) ?_
            refine RL.val (x_lds (cs := #[.int .i64 ((((⟨(⟨k.peer.node, k.peer.inc, 2⟩ : Peer), ((waiI T i).T).now⟩ : KnownM)).peer).node), .int .i64 ((((⟨(⟨k.peer.node, k.peer.inc, 2⟩ : Peer), ((waiI T i).T).now⟩ : KnownM)).peer).inc), .int .i64 ((((⟨(⟨k.peer.node, k.peer.inc, 2⟩ : Peer), ((waiI T i).T).now⟩ : KnownM)).peer).status)]) ty23 rfl rfl (hc_218.drop 0 3)) ?_
            refine RL.st rfl <| St1.buildSlice ([((⟨(⟨k.peer.node, k.peer.inc, 2⟩ : Peer), ((waiI T i).T).now⟩ : KnownM)).peer] : List Peer) Try.underlying32 ty23 rfl rfl (by first | decide | (simp [Enc.size])) ?_
            intro b_221 w_222 hl_225 ho_224 K_223
            have pr_226 : ∀ q_, own (some ⟨b_221, 0, none⟩) q_ → ¬ own at1 q_ := apartNew (ge_new hl_225) ho_4.own_lt
            have pr_227 : ∀ q_, own (some ⟨b_221, 0, none⟩) q_ → ¬ own at2 q_ := apartNew (ge_new hl_225) ho_5.own_lt
            have pr_228 : ∀ q_, own (some ⟨b_221, 0, none⟩) q_ → ¬ own at3 q_ := apartNew (ge_new hl_225) ho_6.own_lt
            have pr_229 : ¬ own (some ⟨b_221, 0, none⟩) b := notNew (ge_new hl_225) hb24.lt
            have pr_230 : ∀ q_, own (some ⟨b_221, 0, none⟩) q_ → ¬ own aLb q_ := apartNew (ge_new hl_225) hoL24.own_lt
            have pr_231 : ∀ q_, own (some ⟨b_221, 0, none⟩) q_ → ¬ own aPb q_ := apartNew (ge_new hl_225) hoP24.own_lt
            have pr_232 : ¬ own (some ⟨b_221, 0, none⟩) b_31 := notNew (ge_new hl_225) hb_34.lt
            have pg_233 : ∀ q_, own (some ⟨b_221, 0, none⟩) q_ → q_ < w.heap.size → (rtabS b aL aP) q_ := fun q_ h hlt => absurd (Nat.le_trans K0.size ((ge_new hl_225) q_ h)) (by omega)
            have pw_234 : ∀ q_, own (some ⟨b_221, 0, none⟩) q_ → w.heap.size ≤ q_ := fun q_ h => Nat.le_trans K0.size ((ge_new hl_225) q_ h)
            clear hl_225
            replace ho_4 := ho_4.ext K_223
            replace ho_5 := ho_5.ext K_223
            replace ho_6 := ho_6.ext K_223
            replace hb24 := hb24.ext K_223
            replace hoL24 := hoL24.ext K_223
            replace hoP24 := hoP24.ext K_223
            replace hb_34 := hb_34.ext K_223
            replace hc_218 := hc_218.ext K_223
            replace K0 := K0.ext K_223
            refine RL.st rfl <| St1.append (xs := (waiI T i).told) (ys := ([((⟨(⟨k.peer.node, k.peer.inc, 2⟩ : Peer), ((waiI T i).T).now⟩ : KnownM)).peer] : List Peer)) Try.underlying32 ty23 rfl rfl rfl ho_5 ho_224.sl (by first | omega | (simp only [lr]; omega)) (by decide) ?_
            intro a_235 c_236 w_237 ho_238 K_239 hm_240 hrm_241
            have pr_242 : ∀ q_, own a_235 q_ → ¬ own at1 q_ := hm_240.apart (fun q_ h1 h2 => pr_11 q_ h2 h1) ho_4.own_lt
            have pr_243 : ∀ q_, own a_235 q_ → ¬ own at3 q_ := hm_240.apart pr_14 ho_6.own_lt
            have pr_244 : ¬ own a_235 b := hm_240.not (fun h2 => pr_8 _ (.inl rfl) h2) hb24.lt
            have pr_245 : ∀ q_, own a_235 q_ → ¬ own aLb q_ := hm_240.apart (fun q_ h1 h2 => (fun q_ h1 h2 => pr_8 q_ (.inr (.inl h1)) h2) q_ h2 h1) hoL24.own_lt
            have pr_246 : ∀ q_, own a_235 q_ → ¬ own aPb q_ := hm_240.apart (fun q_ h1 h2 => (fun q_ h1 h2 => pr_8 q_ (.inr (.inr h1)) h2) q_ h2 h1) hoP24.own_lt
            have pr_247 : ¬ own a_235 b_31 := hm_240.not pr_39 hb_34.lt
            have pr_248 : ∀ q_, own a_235 q_ → ¬ own (some ⟨b_221, 0, none⟩) q_ := hm_240.apart (fun q_ h1 h2 => pr_227 q_ h2 h1) ho_224.own_lt
            have pg_249 : ∀ q_, own a_235 q_ → q_ < w.heap.size → (rtabS b aL aP) q_ := hm_240.inS pr_15 K0.size
            have pw_250 : ∀ q_, own a_235 q_ → w.heap.size ≤ q_ := hm_240.ge pr_18 K0.size
            replace ho_4 := ho_4.keepO K_239 pr_11
            replace ho_6 := ho_6.keepO K_239 (fun q_ h1 h2 => pr_14 q_ h2 h1)
            replace hb24 := hb24.keep K_239 (fun h2 => pr_8 _ (.inl rfl) h2)
            replace hoL24 := hoL24.keepO K_239 (fun q_ h1 h2 => pr_8 q_ (.inr (.inl h1)) h2)
            replace hoP24 := hoP24.keepO K_239 (fun q_ h1 h2 => pr_8 q_ (.inr (.inr h1)) h2)
            replace hb_34 := hb_34.keep K_239 pr_39
            replace hc_218 := hc_218.keep K_239 (fun h => (fun q_ h1 h2 => pr_8 q_ (.inr (.inl h1)) h2) _ ((own_sub _) _ ha_217) h)
            replace ho_224 := ho_224.keepO K_239 pr_227
            replace K0 := K0.trans K_239 (fun x hlt hx => pr_15 x hx hlt)
            clear hm_240
            clear hrm_241
            refine RL.val (x_assignSl rfl) ?_
            refine RL.nil ?_
            refine Run.inBlock ?_
            refine Run.region ?_
            refine RL.val (x_moveI rfl) ?_
            refine RL.val (litI (c := ((i + 1 : Nat) : Int)) (x_add rfl rfl (by omega) (by omega)) rfl) ?_
            refine RL.val (x_assignI rfl) ?_
            refine RL.nil ?_
            have eL_252 : ((knownL ((waiI T i).T).l).set (posL (waiI T i).T.l (p.target).toNat) (⟨(⟨k.peer.node, k.peer.inc, 2⟩ : Peer), k.since⟩ : KnownM)).set (posL (waiI T i).T.l (p.target).toNat) (⟨(⟨k.peer.node, k.peer.inc, 2⟩ : Peer), ((waiI T i).T).now⟩ : KnownM) = knownL (learnT (waiI T i).T { k.peer with status := 2 }).l := learn_known hk hks (by simp) (by simp only; omega)
            rw [eL_252] at hb24 hoL24
            have hR_251 : RTabAt w_237 b aLb cLb aPb cPb (learnT (waiI T i).T { k.peer with status := 2 }) := ⟨hb24, hoL24, hoP24, hapL24, hapP24, hapLP24, (learnT_ok hwo.ok (by simp only; omega)), (learn_nev (n := (waiI T i).T.self) hwn2 (by have := hnv.far p (mem_of_at hx'); have := hwo.self; simp only; omega) (by simp only; omega) hwo.ok.self0.1)⟩
            have pt_253 : ∀ q_, rtabS b aLb aPb q_ → ¬ own at1 q_ := (fun q_ h1 h2 => h1.elim (fun e => (fun h2 => pr_7 _ (.inl rfl) h2) (e ▸ h2)) (fun h1 => h1.elim (fun h => (fun q_ h1 h2 => pr_7 q_ (.inr (.inl h1)) h2) q_ h h2) (fun h => (fun q_ h1 h2 => pr_7 q_ (.inr (.inr h1)) h2) q_ h h2)))
            have pt_254 : ∀ q_, rtabS b aLb aPb q_ → ¬ own at3 q_ := (fun q_ h1 h2 => h1.elim (fun e => (fun h2 => pr_9 _ (.inl rfl) h2) (e ▸ h2)) (fun h1 => h1.elim (fun h => (fun q_ h1 h2 => pr_9 q_ (.inr (.inl h1)) h2) q_ h h2) (fun h => (fun q_ h1 h2 => pr_9 q_ (.inr (.inr h1)) h2) q_ h h2)))
            have pt_255 : ¬ rtabS b aLb aPb b_31 := (fun h1 => h1.elim (fun e => absurd e (by omega)) (fun h1 => h1.elim (fun h => pr_41 h) (fun h => pr_42 h)))
            have pt_256 : ∀ q_, rtabS b aLb aPb q_ → ¬ own (some ⟨b_221, 0, none⟩) q_ := (fun q_ h1 h2 => h1.elim (fun e => pr_229 (e ▸ h2)) (fun h1 => h1.elim (fun h => (fun q_ h1 h2 => pr_230 q_ h2 h1) q_ h h2) (fun h => (fun q_ h1 h2 => pr_231 q_ h2 h1) q_ h h2)))
            have pt_257 : ∀ q_, rtabS b aLb aPb q_ → ¬ own a_235 q_ := (fun q_ h1 h2 => h1.elim (fun e => pr_244 (e ▸ h2)) (fun h1 => h1.elim (fun h => (fun q_ h1 h2 => pr_245 q_ h2 h1) q_ h h2) (fun h => (fun q_ h1 h2 => pr_246 q_ h2 h1) q_ h h2)))
            have pt_258 : ∀ q_, rtabS b aLb aPb q_ → q_ < w.heap.size → (rtabS b aL aP) q_ := (fun q_ h1 hlt => h1.elim (fun e => e ▸ (Or.inl rfl)) (fun h1 => h1.elim (fun h => (fun q_ h1 hlt => pr_10 q_ (.inr (.inl h1)) hlt) q_ h hlt) (fun h => (fun q_ h1 hlt => pr_10 q_ (.inr (.inr h1)) hlt) q_ h hlt)))
            clear hb24 hoL24 hoP24
            have e : waiI T (i + 1) = _ := (waiI_succ hx').trans (wai1_sus (by omega) hc43 hk hc129)
            refine ih1 (i + 1) _ _ ?_ (by omega)
            rw [e]
            refine ⟨_, _, _, _, _, _, _, _, _, _, ⟨rfl, rfl, rfl, rfl, rfl, trivial⟩, K0, hR_251, ho_4, ho_238, ho_6, pt_253, pt_257, pt_254, pt_258, (fun q_ h1 h2 => pr_242 q_ h2 h1), pr_12, pr_13, pr_243, pg_249, pr_16, pr_17, pw_250, pr_19, ?_⟩
            · omega
          · try simp only [br] at hc129
            refine Run.skip ?_
            refine Run.inBlock ?_
            refine Run.region ?_
            refine RL.val (x_moveI rfl) ?_
            refine RL.val (litI (c := ((i + 1 : Nat) : Int)) (x_add rfl rfl (by omega) (by omega)) rfl) ?_
            refine RL.val (x_assignI rfl) ?_
            refine RL.nil ?_
            have hR_259 : RTabAt w_181 b aLb cLb aPb cPb ((waiI T i).T) := ⟨hb24, hoL24, hoP24, hapL24, hapP24, hapLP24, ok24, nv24⟩
            have pt_260 : ∀ q_, rtabS b aLb aPb q_ → ¬ own at1 q_ := (fun q_ h1 h2 => h1.elim (fun e => (fun h2 => pr_7 _ (.inl rfl) h2) (e ▸ h2)) (fun h1 => h1.elim (fun h => (fun q_ h1 h2 => pr_7 q_ (.inr (.inl h1)) h2) q_ h h2) (fun h => (fun q_ h1 h2 => pr_7 q_ (.inr (.inr h1)) h2) q_ h h2)))
            have pt_261 : ∀ q_, rtabS b aLb aPb q_ → ¬ own at2 q_ := (fun q_ h1 h2 => h1.elim (fun e => (fun h2 => pr_8 _ (.inl rfl) h2) (e ▸ h2)) (fun h1 => h1.elim (fun h => (fun q_ h1 h2 => pr_8 q_ (.inr (.inl h1)) h2) q_ h h2) (fun h => (fun q_ h1 h2 => pr_8 q_ (.inr (.inr h1)) h2) q_ h h2)))
            have pt_262 : ∀ q_, rtabS b aLb aPb q_ → ¬ own at3 q_ := (fun q_ h1 h2 => h1.elim (fun e => (fun h2 => pr_9 _ (.inl rfl) h2) (e ▸ h2)) (fun h1 => h1.elim (fun h => (fun q_ h1 h2 => pr_9 q_ (.inr (.inl h1)) h2) q_ h h2) (fun h => (fun q_ h1 h2 => pr_9 q_ (.inr (.inr h1)) h2) q_ h h2)))
            have pt_263 : ¬ rtabS b aLb aPb b_31 := (fun h1 => h1.elim (fun e => absurd e (by omega)) (fun h1 => h1.elim (fun h => pr_41 h) (fun h => pr_42 h)))
            have pt_264 : ∀ q_, rtabS b aLb aPb q_ → q_ < w.heap.size → (rtabS b aL aP) q_ := (fun q_ h1 hlt => h1.elim (fun e => e ▸ (Or.inl rfl)) (fun h1 => h1.elim (fun h => (fun q_ h1 hlt => pr_10 q_ (.inr (.inl h1)) hlt) q_ h hlt) (fun h => (fun q_ h1 hlt => pr_10 q_ (.inr (.inr h1)) hlt) q_ h hlt)))
            clear hb24 hoL24 hoP24
            have e : waiI T (i + 1) = _ := (waiI_succ hx').trans (wai1_no (by omega) hc43 hk hc129)
            refine ih1 (i + 1) _ _ ?_ (by omega)
            rw [e]
            refine ⟨_, _, _, _, _, _, _, _, _, _, ⟨rfl, rfl, rfl, rfl, rfl, trivial⟩, K0, hR_259, ho_4, ho_5, ho_6, pt_260, pt_261, pt_262, pt_264, pr_11, pr_12, pr_13, pr_14, pr_15, pr_16, pr_17, pr_18, pr_19, ?_⟩
            · omega
  · try simp only [br] at hc19
    refine Run.exit rfl ?_
    refine Run.seq ?_
    refine Run.region ?_
    refine RL.val (x_moveP rfl) ?_
    refine RL.val (x_moveSl rfl) ?_
    refine RL.val (x_nilCheck rfl) ?_
    refine RL.val (x_fld (o' := 3) Try.underlying94 rfl ty92 rfl rfl rfl) ?_
    refine RL.st rfl <| St1.store (v := .slice (at3) (((waiI T i).left).length) (ct3)) ty92 rfl rfl rfl (by simp [Value.cells, Value.oneCell']) hb24 (by simp) ?_
    intro w_265 hb24_ K_266
    have hb24' : Blk w_265 b [.int .i64 (((waiI T i).T).self), .int .i64 (((waiI T i).T).now), .slice (aLb) ((knownL ((waiI T i).T).l).length) (cLb), .slice (at3) (((waiI T i).left).length) (ct3), .int .i64 (((waiI T i).T).req), .bool (((waiI T i).T).begun), .int .i64 (((waiI T i).T).last), .int .i64 (((waiI T i).T).target)] 94 := hb24_
    clear hb24_
    replace ho_4 := ho_4.keepO K_266 (fun q_ hq_ eq_ => (fun h2 => pr_7 _ (.inl rfl) h2) (by simp only [one] at eq_; rw [← eq_]; exact hq_))
    replace ho_5 := ho_5.keepO K_266 (fun q_ hq_ eq_ => (fun h2 => pr_8 _ (.inl rfl) h2) (by simp only [one] at eq_; rw [← eq_]; exact hq_))
    replace ho_6 := ho_6.keepO K_266 (fun q_ hq_ eq_ => (fun h2 => pr_9 _ (.inl rfl) h2) (by simp only [one] at eq_; rw [← eq_]; exact hq_))
    replace hoL24 := hoL24.keepO K_266 (fun q_ hq_ eq_ => hapL24 (by simp only [one] at eq_; rw [← eq_]; exact hq_))
    replace hoP24 := hoP24.keepO K_266 (fun q_ hq_ eq_ => hapP24 (by simp only [one] at eq_; rw [← eq_]; exact hq_))
    replace K0 := K0.trans K_266 (fun x _ hx => by simp only [one] at hx; subst hx; exact (Or.inl rfl))
    replace hb24 := hb24'
    clear hb24'
    refine RL.nil ?_
    refine Run.seq ?_
    refine Run.region ?_
    refine RL.val (x_moveSl rfl) ?_
    refine RL.val (x_moveSl rfl) ?_
    refine RL.val (x_assignSl rfl) ?_
    refine RL.val (x_assignSl rfl) ?_
    refine RL.nil ?_
    refine Run.ret2 (v := .slice (at1) (((waiI T i).out).length) (ct1)) (x := .slice (at2) (((waiI T i).told).length) (ct2)) Try.func52 rfl rfl rfl ?_
    have hil : i = T.pings.length := by omega
    have hwk := waited_ok T hok
    have hwv := (nev_waited hok hnv).1
    have hss : (waitedT T).T.self = T.self := by show (waiI T T.pings.length).T.self = T.self; rw [← hil]; exact hwo.self
    subst hil
    have hR_267 : RTabAt w_265 b aLb cLb at3 ct3 ((waitedT T).T) := ⟨hb24, hoL24, ho_6, hapL24, (fun h2 => pr_9 _ (.inl rfl) h2), (fun q_ h1 h2 => pr_9 q_ (.inr (.inl h1)) h2), hwk, (by rw [hss]; exact hwv)⟩
    have pt_268 : ∀ q_, rtabS b aLb at3 q_ → ¬ own at1 q_ := (fun q_ h1 h2 => h1.elim (fun e => (fun h2 => pr_7 _ (.inl rfl) h2) (e ▸ h2)) (fun h1 => h1.elim (fun h => (fun q_ h1 h2 => pr_7 q_ (.inr (.inl h1)) h2) q_ h h2) (fun h => (fun q_ h1 h2 => pr_12 q_ h2 h1) q_ h h2)))
    have pt_269 : ∀ q_, rtabS b aLb at3 q_ → ¬ own at2 q_ := (fun q_ h1 h2 => h1.elim (fun e => (fun h2 => pr_8 _ (.inl rfl) h2) (e ▸ h2)) (fun h1 => h1.elim (fun h => (fun q_ h1 h2 => pr_8 q_ (.inr (.inl h1)) h2) q_ h h2) (fun h => (fun q_ h1 h2 => pr_14 q_ h2 h1) q_ h h2)))
    have pt_270 : ∀ q_, rtabS b aLb at3 q_ → ¬ own aPb q_ := (fun q_ h1 h2 => h1.elim (fun e => hapP24 (e ▸ h2)) (fun h1 => h1.elim (fun h => hapLP24 q_ h h2) (fun h => (fun q_ h1 h2 => (fun q_ h1 h2 => pr_9 q_ (.inr (.inr h1)) h2) q_ h2 h1) q_ h h2)))
    have pt_271 : ∀ q_, rtabS b aLb at3 q_ → q_ < w.heap.size → (rtabS b aL aP) q_ := (fun q_ h1 hlt => h1.elim (fun e => e ▸ (Or.inl rfl)) (fun h1 => h1.elim (fun h => (fun q_ h1 hlt => pr_10 q_ (.inr (.inl h1)) hlt) q_ h hlt) (fun h => pr_16 q_ h hlt)))
    clear hb24 hoL24 ho_6
    exact ⟨_, rfl, aLb, cLb, at3, ct3, at1, ct1, at2, ct2, rfl, hR_267, ho_4, ho_5, pr_17, pr_18, (fun q_ h1 h2 => pt_268 q_ h2 h1), (fun q_ h1 h2 => pt_269 q_ h2 h1), pr_11, rtabMoved' (fun x hx hlt => pt_271 x (.inr (.inl hx)) hlt) (fun x hx hlt => pt_271 x (.inr (.inr hx)) hlt), K0⟩

end Go.Proofs.Ytagfdmdajmkddaa
