/-
  Layer 12's walks: waited, next, begin, Tick.
-/
import Derived.Test.YtagfdmdajmkddaaRows
import Derived.Test.YtagfdmdajmkddaaLc
namespace Go.Proofs.Ytagfdmdajmkddaa
attribute [local irreducible] St1 RL RA RT RT1 Run

open Sa
theorem wai1_left {s : Wai} {p : Ping} (h : s.T.now - p.since < 50) : wai1 s p = { s with left := s.left ++ [p] } := by rw [wai1, if_pos h]
theorem wai1_ask {s : Wai} {p : Ping} (h : ¬ s.T.now - p.since < 50) (ho : p.others = false) : wai1 s p = { s with out := s.out ++ asks s.T p (othersT s.T p.target), left := s.left ++ [{ p with others := true, since := s.T.now }] } := by rw [wai1, if_neg h, if_pos ho]
theorem wai1_sus {s : Wai} {p : Ping} {k : KnownM} (h : ¬ s.T.now - p.since < 50) (ho : p.others = true) (hk : s.T.l[p.target.toNat]? = some k) (h1 : k.peer.status = 1) : wai1 s p = { s with T := learnT s.T { k.peer with status := 2 }, told := s.told ++ [{ k.peer with status := 2 }] } := by
  rw [wai1, if_neg h, if_neg (by simp [ho]), hk]; simp only [if_pos h1]
theorem wai1_no {s : Wai} {p : Ping} {k : KnownM} (h : ¬ s.T.now - p.since < 50) (ho : p.others = true) (hk : s.T.l[p.target.toNat]? = some k) (h1 : ¬ k.peer.status = 1) : wai1 s p = s := by
  rw [wai1, if_neg h, if_neg (by simp [ho]), hk]; simp only [if_neg h1]
structure WaiOk (T : Tab) (i : Nat) (s : Wai) : Prop where
  ok : TabOk s.T
  same : s.T.pings = T.pings
  now : s.T.now = T.now
  self : s.T.self = T.self
  out : s.out.length ≤ 2 * i
  told : s.told.length ≤ i
  left : s.left.length ≤ i
  ping : ∀ p ∈ s.left, 0 ≤ p.target ∧ p.target < 8 ∧ 0 ≤ p.since ∧ p.since ≤ T.now
theorem wai_ok (T : Tab) (h : TabOk T) : ∀ i, i ≤ T.pings.length → WaiOk T i (waiI T i) := by
  refine tf_ind (fun i (s : Wai) => WaiOk T i s) ⟨h, rfl, rfl, rfl, by simp, by simp, by simp, by simp⟩ ?_
  intro i x s hx h1
  have hp := h.pings x (mem_of_at hx)
  have hn := h.now0
  by_cases c1 : s.T.now - x.since < 50
  · rw [wai1_left c1]
    refine ⟨h1.ok, h1.same, h1.now, h1.self, by have := h1.out; simp only; omega, by have := h1.told; simp only; omega, by have := h1.left; simp only [List.length_append, List.length_singleton]; omega, ?_⟩
    intro p hp'
    rcases List.mem_append.1 hp' with hq | hq
    · exact h1.ping p hq
    · simp only [List.mem_singleton] at hq; subst hq; exact hp
  · cases c2 : x.others with
    | false =>
      rw [wai1_ask c1 c2]
      have ho := oth_len s.T x.target 8
      refine ⟨h1.ok, h1.same, h1.now, h1.self, ?_, by have := h1.told; simp only; omega, by have := h1.left; simp only [List.length_append, List.length_singleton]; omega, ?_⟩
      · have := h1.out
        simp only [List.length_append, asks, List.length_map, othersT]; omega
      · intro p hp'
        rcases List.mem_append.1 hp' with hq | hq
        · exact h1.ping p hq
        · simp only [List.mem_singleton] at hq; subst hq; have := h1.now; simp only; omega
    | true =>
      obtain ⟨k, hk⟩ : ∃ k, s.T.l[x.target.toNat]? = some k := ⟨_, List.getElem?_eq_getElem (by have := h1.ok.len; omega)⟩
      by_cases c3 : k.peer.status = 1
      · rw [wai1_sus c1 c2 hk c3]
        have hkn := (h1.ok.known _ k hk).2.2 (by omega)
        exact ⟨learnT_ok h1.ok (by simp only; omega), h1.same, h1.now, h1.self, by have := h1.out; simp only; omega, by have := h1.told; simp only [List.length_append, List.length_singleton]; omega, by have := h1.left; simp only; omega, h1.ping⟩
      · rw [wai1_no c1 c2 hk c3]
        exact ⟨h1.ok, h1.same, h1.now, h1.self, by have := h1.out; omega, by have := h1.told; omega, by have := h1.left; omega, h1.ping⟩
theorem waited_ok (T : Tab) (h : TabOk T) : TabOk (waitedT T).T := by
  have h1 := wai_ok T h T.pings.length (Nat.le_refl _)
  exact ⟨h1.ok.len, h1.ok.self0, h1.ok.now0, h1.ok.known, fun p hp => by have := h1.ping p hp; have e := h1.now; simp only [waitedT]; omega, h1.ok.req0, h1.ok.last0⟩
theorem waiI_succ {T : Tab} {i : Nat} {p : Ping} (h : T.pings[i]? = some p) : waiI T (i + 1) = wai1 (waiI T i) p := tf_succ h
theorem asks_snoc {T : Tab} {p : Ping} {l : List Int} {j : Nat} {n : Int} (h : l[j]? = some n) : asks T p (l.take (j + 1)) = asks T p (l.take j) ++ [mkMsg 6 T.self n p.req p.target (-1)] := by
  obtain ⟨hj, rfl⟩ := List.getElem?_eq_some_iff.1 h
  rw [List.take_succ_eq_append_getElem hj, asks, List.map_append]; rfl
theorem asks_len (T : Tab) (p : Ping) (l : List Int) : (asks T p l).length = l.length := by simp [asks]
theorem slOfEq {w : World} {al : Option Addr} {x y : List Ping} (h : SlOf w al x) (e : x = y) : SlOf w al y := e ▸ h

theorem ty69 : Ty Try.prog 69 1 24 (.slice (none) (0) (0)) false := ty_of (by kernel_rfl) (by kernel_rfl)
theorem ty107 : Ty Try.prog 107 4 32 (.agg #[.int .i64 (0), .int .i64 (0), .int .i64 (0), .bool (false)]) true := ty_of (by kernel_rfl) (by kernel_rfl)
theorem en62 : Enters Try.prog 62 := enters_of Try.func62 rfl (by kernel_rfl)
theorem en63 : Enters Try.prog 63 := enters_of Try.func63 rfl (by kernel_rfl)

set_option maxRecDepth 100000 in
set_option maxHeartbeats 4000000 in
theorem waited_ (b : Nat) (al : Option Addr) (cl : Nat) (T : Tab)  (w : World) (hT : TabAt w b al cl T) (hpl : T.pings.length ≤ 1048576) :
    Calls Try.prog 44 #[.pointer (some ⟨b, 0, none⟩)] w (Ret (fun v w' => ∃ al' cl' a1 c1 a2 c2, v = .tuple #[.slice a1 (waitedT T).out.length c1, .slice a2 (waitedT T).told.length c2] ∧ TabAt w' b al' cl' (waitedT T).T ∧ OwnSl w' 61 a1 c1 (waitedT T).out ∧ OwnSl w' 23 a2 c2 (waitedT T).told ∧ (∀ x, own a1 x → w.heap.size ≤ x) ∧ (∀ x, own a2 x → w.heap.size ≤ x) ∧ (∀ x, own a1 x → ¬ tabS b al' x) ∧ (∀ x, own a2 x → ¬ tabS b al' x) ∧ (∀ x, own a1 x → ¬ own a2 x) ∧ MovedS w (tabS b al) (tabS b al') ∧ Keeps (tabS b al) w w')) := by
  obtain ⟨hb, ho, hap, ok⟩ := hT
  have hl8 := ok.len
  replace hb : Blk w b (([.bool (true), .int .i64 (T.self), .int .i64 (T.now)] : List Value) ++ flat T.l ++ ([.slice (al) (T.pings.length) (cl), .int .i64 (T.req), .bool (T.begun), .int .i64 (T.last), .int .i64 (T.target)] : List Value)) 71 := hb
  have hok := ok
  refine calls_run (n := 93) Try.func44 rfl rfl rfl ?_
  refine Run.seq ?_
  refine Run.region ?_
  refine RL.val (x_assignSl rfl) ?_
  refine RL.val (x_assignSl rfl) ?_
  refine RL.nil ?_
  refine Run.seq ?_
  refine Run.region ?_
  refine RL.val (x_assignSl rfl) ?_
  refine RL.nil ?_
  refine Run.seq ?_
  refine Run.region ?_
  refine RL.val (x_assignSl rfl) ?_
  refine RL.nil ?_
  refine Run.seq ?_
  refine Run.region ?_
  refine RL.val (x_assignSl rfl) ?_
  refine RL.nil ?_
  refine Run.seq ?_
  refine Run.seq ?_
  refine Run.region ?_
  refine RL.val (x_moveP rfl) ?_
  refine RL.val (x_nilCheck rfl) ?_
  refine RL.val (x_fld (o' := 35) Try.underlying71 rfl ty69 rfl rfl rfl) ?_
  refine RL.val (x_ld (v := .slice (al) (T.pings.length) (cl)) ty69 rfl rfl (hb.cl.field (i := 35) (seg_tail (j := 0) hl8 rfl rfl))) ?_
  refine RL.val (x_lenSl Try.underlying69 rfl) ?_
  refine RL.val (x_moveI rfl) ?_
  refine RL.nil ?_
  refine Run.block ?_
  have hT_1 : TabAt w b al cl T := ⟨hb, ho, hap, ok⟩
  have pt_2 : ∀ q_, tabS b al q_ → q_ < w.heap.size → (tabS b al) q_ := (fun q_ h1 hlt => h1.elim (fun e => e ▸ (Or.inl rfl)) (fun h => (fun x h _ => Or.inr h) q_ h hlt))
  clear hb ho
  refine Run.loop (ι := Nat) (fun i ρ' w' => ∃ at1 : Option Addr, ∃ ct1 : Nat, ∃ at2 : Option Addr, ∃ ct2 : Nat, ∃ at3 : Option Addr, ∃ ct3 : Nat, Holds ρ' [(0, .pointer (some ⟨b, 0, none⟩)), (4, .slice (at1) (((waiI T i).out).length) (ct1)), (5, .slice (at2) (((waiI T i).told).length) (ct2)), (6, .slice (at3) (((waiI T i).left).length) (ct3)), (15, .slice (al) (T.pings.length) (cl)), (16, .int .i64 (((T.pings.length : Nat) : Int))), (17, .int .i64 (((i : Nat) : Int)))] ∧ Keeps (tabS b al) w w' ∧ (TabAt w' b al cl ((waiI T i).T)) ∧ (OwnSl w' 61 at1 ct1 ((waiI T i).out)) ∧ (OwnSl w' 23 at2 ct2 ((waiI T i).told)) ∧ (OwnSl w' 107 at3 ct3 ((waiI T i).left)) ∧ (∀ q_, tabS b al q_ → ¬ own at1 q_) ∧ (∀ q_, tabS b al q_ → ¬ own at2 q_) ∧ (∀ q_, tabS b al q_ → ¬ own at3 q_) ∧ (∀ q_, tabS b al q_ → q_ < w.heap.size → (tabS b al) q_) ∧ (∀ q_, own at1 q_ → ¬ own at2 q_) ∧ (∀ q_, own at1 q_ → ¬ own at3 q_) ∧ (∀ q_, own at1 q_ → q_ < w.heap.size → (tabS b al) q_) ∧ (∀ q_, own at2 q_ → ¬ own at3 q_) ∧ (∀ q_, own at2 q_ → q_ < w.heap.size → (tabS b al) q_) ∧ (∀ q_, own at3 q_ → q_ < w.heap.size → (tabS b al) q_) ∧ (∀ q_, own at1 q_ → w.heap.size ≤ q_) ∧ (∀ q_, own at2 q_ → w.heap.size ≤ q_) ∧ (∀ q_, own at3 q_ → w.heap.size ≤ q_) ∧ (i ≤ T.pings.length)) (fun i => T.pings.length - i) 0 ?_ ?_
  · rw [show waiI T 0 = ⟨T, [], [], []⟩ from tf_zero _ _ _]
    have ho_22 := OwnSl.nil (α := MsgC) w 61
    have ho_23 := OwnSl.nil (α := Peer) w 23
    have ho_24 := OwnSl.nil (α := Ping) w 107
    refine ⟨_, _, _, _, _, _, ⟨rfl, rfl, rfl, rfl, rfl, rfl, rfl, trivial⟩, (Keeps.refl _ w), hT_1, ho_22, ho_23, ho_24, (fun q_ h1 h2 => (fun q_ h1 _ => own_none q_ h1) q_ h2 h1), (fun q_ h1 h2 => (fun q_ h1 _ => own_none q_ h1) q_ h2 h1), (fun q_ h1 h2 => (fun q_ h1 _ => own_none q_ h1) q_ h2 h1), pt_2, (fun q_ h1 h2 => (fun q_ h1 _ => own_none q_ h1) q_ h2 h1), (fun q_ h1 h2 => (fun q_ h1 _ => own_none q_ h1) q_ h2 h1), (fun q_ h1 _ => absurd h1 (own_none q_)), (fun q_ h1 h2 => (fun q_ h1 _ => own_none q_ h1) q_ h2 h1), (fun q_ h1 _ => absurd h1 (own_none q_)), (fun q_ h1 _ => absurd h1 (own_none q_)), (fun q_ h1 => absurd h1 (own_none q_)), (fun q_ h1 => absurd h1 (own_none q_)), (fun q_ h1 => absurd h1 (own_none q_)), ?_⟩
    · omega
  clear hT_1
  rintro i ρ_25 w_3 ⟨at1, ct1, at2, ct2, at3, ct3, hH_4, K0, hO_5, ho_6, ho_7, ho_8, pr_9, pr_10, pr_11, pr_12, pr_13, pr_14, pr_15, pr_16, pr_17, pr_18, pr_19, pr_20, pr_21, hi⟩ ih1
  obtain ⟨ρ₀, rfl⟩ := hH_4.ex
  clear hH_4
  refine Run.seq ?_
  have hwo := wai_ok T hok i (by omega)
  have hnw := hwo.ok.now0
  have hno := hwo.now
  have hb1 := hwo.out
  have hb2 := hwo.told
  have hb3 := hwo.left
  refine Run.region ?_
  refine RL.val (x_ltI rfl rfl) ?_
  refine RL.nil ?_
  refine Run.seq ?_
  refine Run.cond rfl (fun hc18 => ?_) (fun hc18 => ?_)
  · try simp only [br] at hc18
    refine Run.skip ?_
    refine Run.seq ?_
    refine Run.block ?_
    refine Run.seq ?_
    refine Run.region ?_
    obtain ⟨b_26, o_27, p, hx, ha_28, hc_29⟩ := (slOfEq hO_5.own.sl hwo.same).el (i := i) (by first | omega | (simp only [List.length_set]; omega))
    refine RL.val (x_idxN Try.underlying69 ty107 rfl rfl ha_28 (by first | omega | (simp only [List.length_set]; omega))) ?_
    refine RL.val (x_ldV (v := .agg #[.int .i64 ((p).target), .int .i64 ((p).req), .int .i64 ((p).since), .bool ((p).others)]) (y := p) ty107 rfl hc_29 rfl) ?_
    refine RL.st rfl <| St1.alloc ty107 ?_
    intro b_32 w_33 hl_36 hb_35 K_34
    replace hb_35 : Blk w_33 b_32 [.int .i64 (0), .int .i64 (0), .int .i64 (0), .bool (false)] 107 := hb_35
    have ne_37 : b_26 < b_32 := Nat.lt_of_lt_of_le hc_29.lt hl_36
    have pr_38 : ¬ tabS b al b_32 := fun h => absurd (hO_5.own_lt _ h) (by omega)
    have pr_39 : ¬ own at1 b_32 := fun h => absurd (ho_6.own_lt _ h) (by omega)
    have pr_40 : ¬ own at2 b_32 := fun h => absurd (ho_7.own_lt _ h) (by omega)
    have pr_41 : ¬ own at3 b_32 := fun h => absurd (ho_8.own_lt _ h) (by omega)
    have : w.heap.size ≤ b_32 := Nat.le_trans K0.size hl_36
    clear hl_36
    replace hO_5 := hO_5.ext K_34
    replace ho_6 := ho_6.ext K_34
    replace ho_7 := ho_7.ext K_34
    replace ho_8 := ho_8.ext K_34
    replace hc_29 := hc_29.ext K_34
    replace K0 := K0.ext K_34
    refine RL.st rfl <| St1.store (v := .agg #[.int .i64 ((p).target), .int .i64 ((p).req), .int .i64 ((p).since), .bool ((p).others)]) ty107 rfl rfl rfl (by simp [Value.cells, Value.oneCell']) hb_35 (by simp) ?_
    intro w_42 hb_35_ K_43
    have hb_35' : Blk w_42 b_32 [.int .i64 ((p).target), .int .i64 ((p).req), .int .i64 ((p).since), .bool ((p).others)] 107 := hb_35_
    clear hb_35_
    replace hO_5 := hO_5.keepO K_43 (fun q_ hq_ eq_ => pr_38 (by simp only [one] at eq_; rw [← eq_]; exact hq_))
    replace ho_6 := ho_6.keepO K_43 (fun q_ hq_ eq_ => pr_39 (by simp only [one] at eq_; rw [← eq_]; exact hq_))
    replace ho_7 := ho_7.keepO K_43 (fun q_ hq_ eq_ => pr_40 (by simp only [one] at eq_; rw [← eq_]; exact hq_))
    replace ho_8 := ho_8.keepO K_43 (fun q_ hq_ eq_ => pr_41 (by simp only [one] at eq_; rw [← eq_]; exact hq_))
    replace hc_29 := hc_29.keep K_43 (by simp only [one]; omega)
    replace K0 := K0.trans K_43 (fun x hlt hx => absurd hlt (by simp only [one] at hx; omega))
    replace hb_35 := hb_35'
    clear hb_35'
    refine RL.nil ?_
    have hpp := hok.pings p (mem_of_at hx)
    refine Run.block ?_
    refine Run.seq ?_
    obtain ⟨hb44, ho44, hap44, ok44⟩ := hO_5
    have hl44 := ok44.len
    replace hb44 : Blk w_42 b (([.bool (true), .int .i64 (((waiI T i).T).self), .int .i64 (((waiI T i).T).now)] : List Value) ++ flat (((waiI T i).T).l) ++ ([.slice (al) (((waiI T i).T).pings.length) (cl), .int .i64 (((waiI T i).T).req), .bool (((waiI T i).T).begun), .int .i64 (((waiI T i).T).last), .int .i64 (((waiI T i).T).target)] : List Value)) 71 := hb44
    have ne_45 : b_32 ≠ b := fun e => pr_38 (.inl e)
    refine Run.draw' (m := 9) (by kernel_rfl) rfl ?_
    intro w_46 K_47
    replace ho_6 := ho_6.ext K_47
    replace ho_7 := ho_7.ext K_47
    replace ho_8 := ho_8.ext K_47
    replace hb_35 := hb_35.ext K_47
    replace hb44 := hb44.ext K_47
    replace ho44 := ho44.ext K_47
    replace K0 := K0.ext K_47
    refine RA.take (v := .pointer (some ⟨b, 0, none⟩)) 0 rfl (by kernel_rfl) rfl (by rintro _ rfl; exact (x_moveP rfl)) ?_
    refine RA.take (v := .pointer (some ⟨b, 0, none⟩)) 1 rfl (by kernel_rfl) rfl (by rintro _ rfl; exact (x_nilCheck rfl)) ?_
    refine RA.take (v := .pointer (some ⟨b, 2, none⟩)) 2 rfl (by kernel_rfl) rfl (by rintro _ rfl; exact (x_fld (o' := 2) Try.underlying71 rfl ty3 rfl rfl rfl)) ?_
    refine RA.take (v := .int .i64 (((waiI T i).T).now)) 3 rfl (by kernel_rfl) rfl (by rintro _ rfl; exact (x_ld (v := .int .i64 (((waiI T i).T).now)) ty3 rfl rfl (hb44.cl.field (i := 2) (seg_head rfl)))) ?_
    refine RA.take (v := .pointer (some ⟨b_32, 2, none⟩)) 4 rfl (by kernel_rfl) rfl (by rintro _ rfl; exact (x_fld (o' := 2) Try.underlying107 rfl ty3 rfl rfl rfl)) ?_
    refine RA.take (v := .int .i64 ((p).since)) 5 rfl (by kernel_rfl) rfl (by rintro _ rfl; exact (x_ld (v := .int .i64 ((p).since)) ty3 rfl rfl (hb_35.cl.field (i := 2) rfl))) ?_
    refine RA.take (v := .int .i64 ((((waiI T i).T).now) - ((p).since))) 6 rfl (by kernel_rfl) rfl (by rintro _ rfl; exact (x_sub rfl rfl (by omega) (by omega))) ?_
    refine RA.take (v := .bool (decide (((((waiI T i).T).now) - ((p).since)) < 50))) 7 rfl (by kernel_rfl) rfl (by rintro _ rfl; exact (x_ltI rfl rfl)) ?_
    refine RA.take (v := .bool (decide (((((waiI T i).T).now) - ((p).since)) < 50))) 8 rfl (by kernel_rfl) rfl (by rintro _ rfl; exact (x_assignB rfl)) ?_
    refine RA.done (by kernel_rfl) ?_
    refine Run.cond rfl (fun hc39 => ?_) (fun hc39 => ?_)
    · try simp only [br] at hc39
      refine Run.region ?_
      refine RL.val (x_moveSl rfl) ?_
      refine RL.val (x_lds (cs := #[.int .i64 ((p).target), .int .i64 ((p).req), .int .i64 ((p).since), .bool ((p).others)]) ty107 rfl rfl (hb_35.cl.drop 0 4)) ?_
      refine RL.st rfl <| St1.buildSlice ([p] : List Ping) Try.underlying69 ty107 rfl rfl (by first | decide | (simp [Enc.size])) ?_
      intro b_48 w_49 hl_52 ho_51 K_50
      have pr_53 : ∀ q_, own (some ⟨b_48, 0, none⟩) q_ → ¬ own at1 q_ := apartNew (ge_new hl_52) ho_6.own_lt
      have pr_54 : ∀ q_, own (some ⟨b_48, 0, none⟩) q_ → ¬ own at2 q_ := apartNew (ge_new hl_52) ho_7.own_lt
      have pr_55 : ∀ q_, own (some ⟨b_48, 0, none⟩) q_ → ¬ own at3 q_ := apartNew (ge_new hl_52) ho_8.own_lt
      have pr_56 : ¬ own (some ⟨b_48, 0, none⟩) b_32 := notNew (ge_new hl_52) hb_35.lt
      have pr_57 : ¬ own (some ⟨b_48, 0, none⟩) b := notNew (ge_new hl_52) hb44.lt
      have pr_58 : ∀ q_, own (some ⟨b_48, 0, none⟩) q_ → ¬ own al q_ := apartNew (ge_new hl_52) ho44.own_lt
      have pg_59 : ∀ q_, own (some ⟨b_48, 0, none⟩) q_ → q_ < w.heap.size → (tabS b al) q_ := fun q_ h hlt => absurd (Nat.le_trans K0.size ((ge_new hl_52) q_ h)) (by omega)
      have pw_60 : ∀ q_, own (some ⟨b_48, 0, none⟩) q_ → w.heap.size ≤ q_ := fun q_ h => Nat.le_trans K0.size ((ge_new hl_52) q_ h)
      clear hl_52
      replace ho_6 := ho_6.ext K_50
      replace ho_7 := ho_7.ext K_50
      replace ho_8 := ho_8.ext K_50
      replace hb_35 := hb_35.ext K_50
      replace hb44 := hb44.ext K_50
      replace ho44 := ho44.ext K_50
      replace K0 := K0.ext K_50
      refine RL.st rfl <| St1.append (xs := (waiI T i).left) (ys := ([p] : List Ping)) Try.underlying69 ty107 rfl rfl rfl ho_8 ho_51.sl (by first | omega | (simp only [lr]; omega)) (by decide) ?_
      intro a_61 c_62 w_63 ho_64 K_65 hm_66 hrm_67
      have pr_68 : ∀ q_, own a_61 q_ → ¬ own at1 q_ := hm_66.apart (fun q_ h1 h2 => pr_14 q_ h2 h1) ho_6.own_lt
      have pr_69 : ∀ q_, own a_61 q_ → ¬ own at2 q_ := hm_66.apart (fun q_ h1 h2 => pr_16 q_ h2 h1) ho_7.own_lt
      have pr_70 : ¬ own a_61 b_32 := hm_66.not pr_41 hb_35.lt
      have pr_71 : ¬ own a_61 b := hm_66.not (fun h2 => pr_11 _ (.inl rfl) h2) hb44.lt
      have pr_72 : ∀ q_, own a_61 q_ → ¬ own al q_ := hm_66.apart (fun q_ h1 h2 => (fun q_ h1 h2 => pr_11 q_ (.inr h1) h2) q_ h2 h1) ho44.own_lt
      have pr_73 : ∀ q_, own a_61 q_ → ¬ own (some ⟨b_48, 0, none⟩) q_ := hm_66.apart (fun q_ h1 h2 => pr_55 q_ h2 h1) ho_51.own_lt
      have pg_74 : ∀ q_, own a_61 q_ → q_ < w.heap.size → (tabS b al) q_ := hm_66.inS pr_18 K0.size
      have pw_75 : ∀ q_, own a_61 q_ → w.heap.size ≤ q_ := hm_66.ge pr_21 K0.size
      replace ho_6 := ho_6.keepO K_65 pr_14
      replace ho_7 := ho_7.keepO K_65 pr_16
      replace hb_35 := hb_35.keep K_65 pr_41
      replace hb44 := hb44.keep K_65 (fun h2 => pr_11 _ (.inl rfl) h2)
      replace ho44 := ho44.keepO K_65 (fun q_ h1 h2 => pr_11 q_ (.inr h1) h2)
      replace ho_51 := ho_51.keepO K_65 pr_55
      replace K0 := K0.trans K_65 (fun x hlt hx => pr_18 x hx hlt)
      clear hm_66
      clear hrm_67
      refine RL.val (x_assignSl rfl) ?_
      refine RL.nil ?_
      refine Run.inBlock ?_
      refine Run.inBlock ?_
      refine Run.region ?_
      refine RL.val (litI (c := ((i + 1 : Nat) : Int)) (x_add rfl rfl (by omega) (by omega)) rfl) ?_
      refine RL.val (x_moveI rfl) ?_
      refine RL.nil ?_
      have hT_76 : TabAt w_63 b al cl ((waiI T i).T) := ⟨hb44, ho44, hap44, ok44⟩
      have pt_77 : ∀ q_, tabS b al q_ → ¬ own at1 q_ := (fun q_ h1 h2 => h1.elim (fun e => (fun h2 => pr_9 _ (.inl rfl) h2) (e ▸ h2)) (fun h => (fun q_ h1 h2 => pr_9 q_ (.inr h1) h2) q_ h h2))
      have pt_78 : ∀ q_, tabS b al q_ → ¬ own at2 q_ := (fun q_ h1 h2 => h1.elim (fun e => (fun h2 => pr_10 _ (.inl rfl) h2) (e ▸ h2)) (fun h => (fun q_ h1 h2 => pr_10 q_ (.inr h1) h2) q_ h h2))
      have pt_79 : ¬ tabS b al b_32 := (fun h1 => h1.elim (fun e => absurd e (by omega)) (fun h => (fun h1 => pr_38 (.inr h1)) h))
      have pt_80 : ∀ q_, tabS b al q_ → ¬ own (some ⟨b_48, 0, none⟩) q_ := (fun q_ h1 h2 => h1.elim (fun e => pr_57 (e ▸ h2)) (fun h => (fun q_ h1 h2 => pr_58 q_ h2 h1) q_ h h2))
      have pt_81 : ∀ q_, tabS b al q_ → ¬ own a_61 q_ := (fun q_ h1 h2 => h1.elim (fun e => pr_71 (e ▸ h2)) (fun h => (fun q_ h1 h2 => pr_72 q_ h2 h1) q_ h h2))
      have pt_82 : ∀ q_, tabS b al q_ → q_ < w.heap.size → (tabS b al) q_ := (fun q_ h1 hlt => h1.elim (fun e => e ▸ (Or.inl rfl)) (fun h => (fun q_ h1 hlt => pr_12 q_ (.inr h1) hlt) q_ h hlt))
      clear hb44 ho44
      have e : waiI T (i + 1) = _ := (waiI_succ hx).trans (wai1_left hc39)
      refine ih1 (i + 1) _ _ ?_ (by omega)
      rw [e]
      refine ⟨_, _, _, _, _, _, ⟨rfl, rfl, rfl, rfl, rfl, rfl, rfl, trivial⟩, K0, hT_76, ho_6, ho_7, ho_64, pt_77, pt_78, pt_81, pt_82, pr_13, (fun q_ h1 h2 => pr_68 q_ h2 h1), pr_15, (fun q_ h1 h2 => pr_69 q_ h2 h1), pr_17, pg_74, pr_19, pr_20, pw_75, ?_⟩
      · omega
    · try simp only [br] at hc39
      refine Run.seq ?_
      refine Run.region ?_
      refine RL.val (x_fld (o' := 3) Try.underlying107 rfl ty4 rfl rfl rfl) ?_
      refine RL.val (x_ld (v := .bool ((p).others)) ty4 rfl rfl (hb_35.cl.field (i := 3) rfl)) ?_
      refine RL.val (x_not rfl) ?_
      refine RL.val (x_assignB rfl) ?_
      refine RL.nil ?_
      refine Run.cond rfl (fun hc52 => ?_) (fun hc52 => ?_)
      · try simp only [br] at hc52
        refine Run.seq ?_
        refine Run.seq ?_
        have hol := oth_len (waiI T i).T p.target 8
        change (othersT (waiI T i).T p.target).length ≤ 2 at hol
        refine Run.region ?_
        refine RL.val (x_moveP rfl) ?_
        refine RL.val (x_fld (o' := 0) Try.underlying107 rfl ty3 rfl rfl rfl) ?_
        refine RL.val (x_ld (v := .int .i64 ((p).target)) ty3 rfl rfl (hb_35.cl.field (i := 0) rfl)) ?_
        refine RL.st rfl <| St1.call (vals := [.pointer (some ⟨b, 0, none⟩), .int .i64 ((p).target)]) en62 rfl (others_ _ _ _ ((waiI T i).T) ((p).target) _ hb44 hl44) ?_
        rintro _ w_85 ⟨a_83, c_84, rfl, ho_86, hg_87, K_88⟩
        have pr_89 : ∀ q_, own a_83 q_ → ¬ own at1 q_ := apartNew hg_87 ho_6.own_lt
        have pr_90 : ∀ q_, own a_83 q_ → ¬ own at2 q_ := apartNew hg_87 ho_7.own_lt
        have pr_91 : ∀ q_, own a_83 q_ → ¬ own at3 q_ := apartNew hg_87 ho_8.own_lt
        have pr_92 : ¬ own a_83 b_32 := notNew hg_87 hb_35.lt
        have pr_93 : ¬ own a_83 b := notNew hg_87 hb44.lt
        have pr_94 : ∀ q_, own a_83 q_ → ¬ own al q_ := apartNew hg_87 ho44.own_lt
        have pg_95 : ∀ q_, own a_83 q_ → q_ < w.heap.size → (tabS b al) q_ := fun q_ h hlt => absurd (Nat.le_trans K0.size (hg_87 q_ h)) (by omega)
        have pw_96 : ∀ q_, own a_83 q_ → w.heap.size ≤ q_ := fun q_ h => Nat.le_trans K0.size (hg_87 q_ h)
        clear hg_87
        replace ho_6 := ho_6.ext K_88
        replace ho_7 := ho_7.ext K_88
        replace ho_8 := ho_8.ext K_88
        replace hb_35 := hb_35.ext K_88
        replace hb44 := hb44.ext K_88
        replace ho44 := ho44.ext K_88
        replace K0 := K0.ext K_88
        refine RL.val (x_lenSl Try.underlying41 rfl) ?_
        refine RL.val (x_moveI rfl) ?_
        refine RL.nil ?_
        refine Run.block ?_
        refine Run.loop (ι := Nat) (fun j ρ' w' => ∃ am : Option Addr, ∃ cm : Nat, Holds ρ' [(0, .pointer (some ⟨b, 0, none⟩)), (4, .slice (am) (((waiI T i).out ++ asks (waiI T i).T p ((othersT (waiI T i).T p.target).take j)).length) (cm)), (5, .slice (at2) (((waiI T i).told).length) (ct2)), (6, .slice (at3) (((waiI T i).left).length) (ct3)), (8, .pointer (some ⟨b_32, 0, none⟩)), (15, .slice (al) (T.pings.length) (cl)), (16, .int .i64 (((T.pings.length : Nat) : Int))), (17, .int .i64 (((i : Nat) : Int))), (18, .bool (decide (((i : Nat) : Int) < ((T.pings.length : Nat) : Int)))), (59, .slice (a_83) ((othersT ((waiI T i).T) ((p).target)).length) (c_84)), (60, .int .i64 ((((othersT ((waiI T i).T) ((p).target)).length : Nat) : Int))), (61, .int .i64 (((j : Nat) : Int)))] ∧ Keeps (tabS b al) w w' ∧ (Blk w' b_32 [.int .i64 ((p).target), .int .i64 ((p).req), .int .i64 ((p).since), .bool ((p).others)] 107) ∧ (Blk w' b (([.bool (true), .int .i64 (((waiI T i).T).self), .int .i64 (((waiI T i).T).now)] : List Value) ++ flat (((waiI T i).T).l) ++ ([.slice (al) (((waiI T i).T).pings.length) (cl), .int .i64 (((waiI T i).T).req), .bool (((waiI T i).T).begun), .int .i64 (((waiI T i).T).last), .int .i64 (((waiI T i).T).target)] : List Value)) 71) ∧ (OwnSl w' 23 (at2) (ct2) ((waiI T i).told)) ∧ (OwnSl w' 107 (at3) (ct3) ((waiI T i).left)) ∧ (OwnSl w' 107 (al) (cl) (((waiI T i).T).pings)) ∧ (OwnSl w' 3 (a_83) (c_84) (othersT ((waiI T i).T) ((p).target))) ∧ (OwnSl w' 61 am cm ((waiI T i).out ++ asks (waiI T i).T p ((othersT (waiI T i).T p.target).take j))) ∧ (¬ own am b_32) ∧ (¬ own am b) ∧ (∀ q_, own am q_ → ¬ own at2 q_) ∧ (∀ q_, own am q_ → ¬ own at3 q_) ∧ (∀ q_, own am q_ → ¬ own al q_) ∧ (∀ q_, own am q_ → ¬ own a_83 q_) ∧ (∀ q_, own am q_ → q_ < w.heap.size → (tabS b al) q_) ∧ (∀ q_, own am q_ → w.heap.size ≤ q_) ∧ (j ≤ (othersT (waiI T i).T p.target).length)) (fun j => (othersT (waiI T i).T p.target).length - j) 0 ?_ ?_
        · rw [List.take_zero, show asks (waiI T i).T p [] = [] from rfl, List.append_nil]
          refine ⟨_, _, ⟨rfl, rfl, rfl, rfl, rfl, rfl, rfl, rfl, rfl, rfl, rfl, rfl, trivial⟩, K0, hb_35, hb44, ho_7, ho_8, ho44, ho_86, ho_6, pr_39, (fun h2 => pr_9 _ (.inl rfl) h2), pr_13, pr_14, (fun q_ h1 h2 => (fun q_ h1 h2 => pr_9 q_ (.inr h1) h2) q_ h2 h1), (fun q_ h1 h2 => pr_89 q_ h2 h1), pr_15, pr_19, ?_⟩
          · omega
        clear ho_6 ho_7 ho_8 hb_35 hb44 ho44 ho_86
        clear K0
        rintro j ρ_108 w_97 ⟨am, cm, hH_98, K0, hb_35, hb44, ho_7, ho_8, ho44, ho_86, ho_99, pr_100, pr_101, pr_102, pr_103, pr_104, pr_105, pr_106, pr_107, hj⟩ ih2
        obtain ⟨ρ₀, rfl⟩ := hH_98.ex
        clear hH_98
        refine Run.seq ?_
        refine Run.region ?_
        refine RL.val (x_ltI rfl rfl) ?_
        refine RL.nil ?_
        refine Run.seq ?_
        refine Run.cond rfl (fun hc62 => ?_) (fun hc62 => ?_)
        · try simp only [br] at hc62
          refine Run.skip ?_
          refine Run.seq ?_
          refine Run.block ?_
          refine Run.seq ?_
          refine Run.region ?_
          obtain ⟨b_109, o_110, n, hy, ha_111, hc_112⟩ := ho_86.sl.el (i := j) (by first | omega | (simp only [List.length_set]; omega))
          refine RL.val (x_idxN Try.underlying41 ty3 rfl rfl ha_111 (by first | omega | (simp only [List.length_set]; omega))) ?_
          refine RL.val (x_ldV (v := .int .i64 (n)) (y := n) ty3 rfl hc_112 rfl) ?_
          refine RL.val (x_assignI rfl) ?_
          refine RL.nil ?_
          have hal := asks_len (waiI T i).T p ((othersT (waiI T i).T p.target).take j)
          have hlt := List.length_take_le j (othersT (waiI T i).T p.target)
          refine Run.region ?_
          refine RL.val (x_moveSl rfl) ?_
          refine RL.val (x_moveP rfl) ?_
          refine RL.val (x_moveI rfl) ?_
          refine RL.val (x_fld (o' := 1) Try.underlying107 rfl ty3 rfl rfl rfl) ?_
          refine RL.val (x_ld (v := .int .i64 ((p).req)) ty3 rfl rfl (hb_35.cl.field (i := 1) rfl)) ?_
          refine RL.val (x_fld (o' := 0) Try.underlying107 rfl ty3 rfl rfl rfl) ?_
          refine RL.val (x_ld (v := .int .i64 ((p).target)) ty3 rfl rfl (hb_35.cl.field (i := 0) rfl)) ?_
          refine RL.st rfl <| St1.call (vals := [.pointer (some ⟨b, 0, none⟩), .int .i64 (6), .int .i64 (n), .int .i64 ((p).req), .int .i64 ((p).target), .int .i64 (-1)]) en63 rfl (send_ _ _ _ ((waiI T i).T) 6 n ((p).req) ((p).target) (-1) _ hb44 hl44) ?_
          rintro _ w_115 ⟨rfl, K_116⟩
          replace hb_35 := hb_35.ext K_116
          replace hb44 := hb44.ext K_116
          replace ho_7 := ho_7.ext K_116
          replace ho_8 := ho_8.ext K_116
          replace ho44 := ho44.ext K_116
          replace ho_86 := ho_86.ext K_116
          replace ho_99 := ho_99.ext K_116
          replace K0 := K0.ext K_116
          refine RL.st rfl <| St1.buildSlice ([mkMsg 6 ((waiI T i).T).self n ((p).req) ((p).target) (-1)] : List MsgC) Try.underlying34 ty61 rfl rfl (by first | decide | (simp [Enc.size])) ?_
          intro b_117 w_118 hl_121 ho_120 K_119
          have pr_122 : ¬ own (some ⟨b_117, 0, none⟩) b_32 := notNew (ge_new hl_121) hb_35.lt
          have pr_123 : ¬ own (some ⟨b_117, 0, none⟩) b := notNew (ge_new hl_121) hb44.lt
          have pr_124 : ∀ q_, own (some ⟨b_117, 0, none⟩) q_ → ¬ own at2 q_ := apartNew (ge_new hl_121) ho_7.own_lt
          have pr_125 : ∀ q_, own (some ⟨b_117, 0, none⟩) q_ → ¬ own at3 q_ := apartNew (ge_new hl_121) ho_8.own_lt
          have pr_126 : ∀ q_, own (some ⟨b_117, 0, none⟩) q_ → ¬ own al q_ := apartNew (ge_new hl_121) ho44.own_lt
          have pr_127 : ∀ q_, own (some ⟨b_117, 0, none⟩) q_ → ¬ own a_83 q_ := apartNew (ge_new hl_121) ho_86.own_lt
          have pr_128 : ∀ q_, own (some ⟨b_117, 0, none⟩) q_ → ¬ own am q_ := apartNew (ge_new hl_121) ho_99.own_lt
          have pg_129 : ∀ q_, own (some ⟨b_117, 0, none⟩) q_ → q_ < w.heap.size → (tabS b al) q_ := fun q_ h hlt => absurd (Nat.le_trans K0.size ((ge_new hl_121) q_ h)) (by omega)
          have pw_130 : ∀ q_, own (some ⟨b_117, 0, none⟩) q_ → w.heap.size ≤ q_ := fun q_ h => Nat.le_trans K0.size ((ge_new hl_121) q_ h)
          clear hl_121
          replace hb_35 := hb_35.ext K_119
          replace hb44 := hb44.ext K_119
          replace ho_7 := ho_7.ext K_119
          replace ho_8 := ho_8.ext K_119
          replace ho44 := ho44.ext K_119
          replace ho_86 := ho_86.ext K_119
          replace ho_99 := ho_99.ext K_119
          replace K0 := K0.ext K_119
          refine RL.st rfl <| St1.append (xs := (waiI T i).out ++ asks (waiI T i).T p ((othersT (waiI T i).T p.target).take j)) (ys := ([mkMsg 6 ((waiI T i).T).self n ((p).req) ((p).target) (-1)] : List MsgC)) Try.underlying34 ty61 rfl rfl rfl ho_99 ho_120.sl (by first | omega | (simp only [lr]; omega)) (by decide) ?_
          intro a_131 c_132 w_133 ho_134 K_135 hm_136 hrm_137
          have pr_138 : ¬ own a_131 b_32 := hm_136.not pr_100 hb_35.lt
          have pr_139 : ¬ own a_131 b := hm_136.not pr_101 hb44.lt
          have pr_140 : ∀ q_, own a_131 q_ → ¬ own at2 q_ := hm_136.apart pr_102 ho_7.own_lt
          have pr_141 : ∀ q_, own a_131 q_ → ¬ own at3 q_ := hm_136.apart pr_103 ho_8.own_lt
          have pr_142 : ∀ q_, own a_131 q_ → ¬ own al q_ := hm_136.apart pr_104 ho44.own_lt
          have pr_143 : ∀ q_, own a_131 q_ → ¬ own a_83 q_ := hm_136.apart pr_105 ho_86.own_lt
          have pr_144 : ∀ q_, own a_131 q_ → ¬ own (some ⟨b_117, 0, none⟩) q_ := hm_136.apart (fun q_ h1 h2 => pr_128 q_ h2 h1) ho_120.own_lt
          have pg_145 : ∀ q_, own a_131 q_ → q_ < w.heap.size → (tabS b al) q_ := hm_136.inS pr_106 K0.size
          have pw_146 : ∀ q_, own a_131 q_ → w.heap.size ≤ q_ := hm_136.ge pr_107 K0.size
          replace hb_35 := hb_35.keep K_135 pr_100
          replace hb44 := hb44.keep K_135 pr_101
          replace ho_7 := ho_7.keepO K_135 (fun q_ h1 h2 => pr_102 q_ h2 h1)
          replace ho_8 := ho_8.keepO K_135 (fun q_ h1 h2 => pr_103 q_ h2 h1)
          replace ho44 := ho44.keepO K_135 (fun q_ h1 h2 => pr_104 q_ h2 h1)
          replace ho_86 := ho_86.keepO K_135 (fun q_ h1 h2 => pr_105 q_ h2 h1)
          replace ho_120 := ho_120.keepO K_135 pr_128
          replace K0 := K0.trans K_135 (fun x hlt hx => pr_106 x hx hlt)
          clear hm_136
          clear hrm_137
          refine RL.val (x_assignSl rfl) ?_
          refine RL.nil ?_
          refine Run.inBlock ?_
          refine Run.region ?_
          refine RL.val (litI (c := ((j + 1 : Nat) : Int)) (x_add rfl rfl (by omega) (by omega)) rfl) ?_
          refine RL.val (x_moveI rfl) ?_
          refine RL.nil ?_
          have e := asks_snoc (T := (waiI T i).T) (p := p) hy
          refine ih2 (j + 1) _ _ ?_ (by omega)
          rw [e, ← List.append_assoc]
          refine ⟨_, _, ⟨rfl, rfl, rfl, rfl, rfl, rfl, rfl, rfl, rfl, rfl, rfl, rfl, trivial⟩, K0, hb_35, hb44, ho_7, ho_8, ho44, ho_86, ho_134, pr_138, pr_139, pr_140, pr_141, pr_142, pr_143, pg_145, pw_146, ?_⟩
          · omega
        · try simp only [br] at hc62
          refine Run.exit rfl ?_
          refine Run.seq ?_
          have hjl : j = (othersT (waiI T i).T p.target).length := by omega
          subst hjl
          rw [List.take_length] at *
          refine Run.drawT [7] (m := 8) (by kernel_rfl) rfl ?_
          intro w_147 K_148
          replace hb_35 := hb_35.ext K_148
          replace hb44 := hb44.ext K_148
          replace ho_7 := ho_7.ext K_148
          replace ho_8 := ho_8.ext K_148
          replace ho44 := ho44.ext K_148
          replace ho_86 := ho_86.ext K_148
          replace ho_99 := ho_99.ext K_148
          replace K0 := K0.ext K_148
          refine ⟨fun w' => Blk w' b (([.bool (true), .int .i64 (((waiI T i).T).self), .int .i64 (((waiI T i).T).now)] : List Value) ++ flat (((waiI T i).T).l) ++ ([.slice (al) (((waiI T i).T).pings.length) (cl), .int .i64 (((waiI T i).T).req), .bool (((waiI T i).T).begun), .int .i64 (((waiI T i).T).last), .int .i64 (((waiI T i).T).target)] : List Value)) 71 ∧ True, ?_⟩
          refine RT.takeP (v := .pointer (some ⟨b, 0, none⟩)) 0 rfl (by kernel_rfl) (.inr ⟨hb44, trivial⟩) (fun _ => (x_moveP rfl)) ?_
          refine RT.takeP (v := .pointer (some ⟨b, 0, none⟩)) 1 rfl (by kernel_rfl) (.inr ⟨hb44, trivial⟩) (fun _ => (x_nilCheck rfl)) ?_
          refine RT.takeP (v := .pointer (some ⟨b, 2, none⟩)) 2 rfl (by kernel_rfl) (.inr ⟨hb44, trivial⟩) (fun _ => (x_fld (o' := 2) Try.underlying71 rfl ty3 rfl rfl rfl)) ?_
          refine RT.take (v := .int .i64 (((waiI T i).T).now)) 3 rfl (by kernel_rfl) ⟨hb44, trivial⟩ (by rintro _ ⟨hb44, -⟩; exact (x_ld (v := .int .i64 (((waiI T i).T).now)) ty3 rfl rfl (hb44.cl.field (i := 2) (seg_head rfl)))) ?_
          refine RT.takeP (v := .pointer (some ⟨b_32, 3, none⟩)) 4 rfl (by kernel_rfl) (.inr ⟨hb44, trivial⟩) (fun _ => (x_fld (o' := 3) Try.underlying107 rfl ty4 rfl rfl rfl)) ?_
          refine RT.st 5 rfl (by kernel_rfl) rfl <| St1.store (v := .bool (true)) ty4 rfl rfl rfl (by simp [Value.cells, Value.oneCell']) hb_35 (by simp) ?_
          intro w_149 hb_35_ K_150
          have hb_35' : Blk w_149 b_32 [.int .i64 ((p).target), .int .i64 ((p).req), .int .i64 ((p).since), .bool (true)] 107 := hb_35_
          clear hb_35_
          replace hb44 := hb44.keep K_150 (by simp only [one]; omega)
          replace ho_7 := ho_7.keepO K_150 (fun q_ hq_ eq_ => pr_40 (by simp only [one] at eq_; rw [← eq_]; exact hq_))
          replace ho_8 := ho_8.keepO K_150 (fun q_ hq_ eq_ => pr_41 (by simp only [one] at eq_; rw [← eq_]; exact hq_))
          replace ho44 := ho44.keepO K_150 (fun q_ hq_ eq_ => (fun h1 => pr_38 (.inr h1)) (by simp only [one] at eq_; rw [← eq_]; exact hq_))
          replace ho_86 := ho_86.keepO K_150 (fun q_ hq_ eq_ => pr_92 (by simp only [one] at eq_; rw [← eq_]; exact hq_))
          replace ho_99 := ho_99.keepO K_150 (fun q_ hq_ eq_ => pr_100 (by simp only [one] at eq_; rw [← eq_]; exact hq_))
          replace K0 := K0.trans K_150 (fun x hlt hx => absurd hlt (by simp only [one] at hx; omega))
          replace hb_35 := hb_35'
          clear hb_35'
          refine ⟨.inr ⟨hb44, trivial⟩, ?_⟩
          refine RT.takeP (v := .pointer (some ⟨b_32, 2, none⟩)) 6 rfl (by kernel_rfl) (.inr ⟨hb44, trivial⟩) (fun _ => (x_fld (o' := 2) Try.underlying107 rfl ty3 rfl rfl rfl)) ?_
          refine RT.st 7 rfl (by kernel_rfl) rfl <| St1.store (v := .int .i64 (((waiI T i).T).now)) ty3 rfl rfl rfl (by simp [Value.cells, Value.oneCell']) hb_35 (by simp) ?_
          intro w_151 hb_35_ K_152
          have hb_35' : Blk w_151 b_32 [.int .i64 ((p).target), .int .i64 ((p).req), .int .i64 (((waiI T i).T).now), .bool (true)] 107 := hb_35_
          clear hb_35_
          replace hb44 := hb44.keep K_152 (by simp only [one]; omega)
          replace ho_7 := ho_7.keepO K_152 (fun q_ hq_ eq_ => pr_40 (by simp only [one] at eq_; rw [← eq_]; exact hq_))
          replace ho_8 := ho_8.keepO K_152 (fun q_ hq_ eq_ => pr_41 (by simp only [one] at eq_; rw [← eq_]; exact hq_))
          replace ho44 := ho44.keepO K_152 (fun q_ hq_ eq_ => (fun h1 => pr_38 (.inr h1)) (by simp only [one] at eq_; rw [← eq_]; exact hq_))
          replace ho_86 := ho_86.keepO K_152 (fun q_ hq_ eq_ => pr_92 (by simp only [one] at eq_; rw [← eq_]; exact hq_))
          replace ho_99 := ho_99.keepO K_152 (fun q_ hq_ eq_ => pr_100 (by simp only [one] at eq_; rw [← eq_]; exact hq_))
          replace K0 := K0.trans K_152 (fun x hlt hx => absurd hlt (by simp only [one] at hx; omega))
          replace hb_35 := hb_35'
          clear hb_35'
          refine ⟨.inl (by kernel_rfl), ?_⟩
          refine RT.done (by kernel_rfl) ?_
          refine Run.region ?_
          refine RL.val (x_moveSl rfl) ?_
          refine RL.val (x_lds (cs := #[.int .i64 ((p).target), .int .i64 ((p).req), .int .i64 (((waiI T i).T).now), .bool (true)]) ty107 rfl rfl (hb_35.cl.drop 0 4)) ?_
          refine RL.st rfl <| St1.buildSlice ([(⟨(p).target, (p).req, ((waiI T i).T).now, true⟩ : Ping)] : List Ping) Try.underlying69 ty107 rfl rfl (by first | decide | (simp [Enc.size])) ?_
          intro b_153 w_154 hl_157 ho_156 K_155
          have pr_158 : ¬ own (some ⟨b_153, 0, none⟩) b_32 := notNew (ge_new hl_157) hb_35.lt
          have pr_159 : ¬ own (some ⟨b_153, 0, none⟩) b := notNew (ge_new hl_157) hb44.lt
          have pr_160 : ∀ q_, own (some ⟨b_153, 0, none⟩) q_ → ¬ own at2 q_ := apartNew (ge_new hl_157) ho_7.own_lt
          have pr_161 : ∀ q_, own (some ⟨b_153, 0, none⟩) q_ → ¬ own at3 q_ := apartNew (ge_new hl_157) ho_8.own_lt
          have pr_162 : ∀ q_, own (some ⟨b_153, 0, none⟩) q_ → ¬ own al q_ := apartNew (ge_new hl_157) ho44.own_lt
          have pr_163 : ∀ q_, own (some ⟨b_153, 0, none⟩) q_ → ¬ own a_83 q_ := apartNew (ge_new hl_157) ho_86.own_lt
          have pr_164 : ∀ q_, own (some ⟨b_153, 0, none⟩) q_ → ¬ own am q_ := apartNew (ge_new hl_157) ho_99.own_lt
          have pg_165 : ∀ q_, own (some ⟨b_153, 0, none⟩) q_ → q_ < w.heap.size → (tabS b al) q_ := fun q_ h hlt => absurd (Nat.le_trans K0.size ((ge_new hl_157) q_ h)) (by omega)
          have pw_166 : ∀ q_, own (some ⟨b_153, 0, none⟩) q_ → w.heap.size ≤ q_ := fun q_ h => Nat.le_trans K0.size ((ge_new hl_157) q_ h)
          clear hl_157
          replace hb_35 := hb_35.ext K_155
          replace hb44 := hb44.ext K_155
          replace ho_7 := ho_7.ext K_155
          replace ho_8 := ho_8.ext K_155
          replace ho44 := ho44.ext K_155
          replace ho_86 := ho_86.ext K_155
          replace ho_99 := ho_99.ext K_155
          replace K0 := K0.ext K_155
          refine RL.st rfl <| St1.append (xs := (waiI T i).left) (ys := ([(⟨(p).target, (p).req, ((waiI T i).T).now, true⟩ : Ping)] : List Ping)) Try.underlying69 ty107 rfl rfl rfl ho_8 ho_156.sl (by first | omega | (simp only [lr]; omega)) (by decide) ?_
          intro a_167 c_168 w_169 ho_170 K_171 hm_172 hrm_173
          have pr_174 : ¬ own a_167 b_32 := hm_172.not pr_41 hb_35.lt
          have pr_175 : ¬ own a_167 b := hm_172.not (fun h2 => pr_11 _ (.inl rfl) h2) hb44.lt
          have pr_176 : ∀ q_, own a_167 q_ → ¬ own at2 q_ := hm_172.apart (fun q_ h1 h2 => pr_16 q_ h2 h1) ho_7.own_lt
          have pr_177 : ∀ q_, own a_167 q_ → ¬ own al q_ := hm_172.apart (fun q_ h1 h2 => (fun q_ h1 h2 => pr_11 q_ (.inr h1) h2) q_ h2 h1) ho44.own_lt
          have pr_178 : ∀ q_, own a_167 q_ → ¬ own a_83 q_ := hm_172.apart (fun q_ h1 h2 => pr_91 q_ h2 h1) ho_86.own_lt
          have pr_179 : ∀ q_, own a_167 q_ → ¬ own am q_ := hm_172.apart (fun q_ h1 h2 => pr_103 q_ h2 h1) ho_99.own_lt
          have pr_180 : ∀ q_, own a_167 q_ → ¬ own (some ⟨b_153, 0, none⟩) q_ := hm_172.apart (fun q_ h1 h2 => pr_161 q_ h2 h1) ho_156.own_lt
          have pg_181 : ∀ q_, own a_167 q_ → q_ < w.heap.size → (tabS b al) q_ := hm_172.inS pr_18 K0.size
          have pw_182 : ∀ q_, own a_167 q_ → w.heap.size ≤ q_ := hm_172.ge pr_21 K0.size
          replace hb_35 := hb_35.keep K_171 pr_41
          replace hb44 := hb44.keep K_171 (fun h2 => pr_11 _ (.inl rfl) h2)
          replace ho_7 := ho_7.keepO K_171 pr_16
          replace ho44 := ho44.keepO K_171 (fun q_ h1 h2 => pr_11 q_ (.inr h1) h2)
          replace ho_86 := ho_86.keepO K_171 pr_91
          replace ho_99 := ho_99.keepO K_171 pr_103
          replace ho_156 := ho_156.keepO K_171 pr_161
          replace K0 := K0.trans K_171 (fun x hlt hx => pr_18 x hx hlt)
          clear hm_172
          clear hrm_173
          refine RL.val (x_assignSl rfl) ?_
          refine RL.nil ?_
          refine Run.inBlock ?_
          refine Run.inBlock ?_
          refine Run.region ?_
          refine RL.val (litI (c := ((i + 1 : Nat) : Int)) (x_add rfl rfl (by omega) (by omega)) rfl) ?_
          refine RL.val (x_moveI rfl) ?_
          refine RL.nil ?_
          have hT_183 : TabAt w_169 b al cl ((waiI T i).T) := ⟨hb44, ho44, hap44, ok44⟩
          have pt_184 : ¬ tabS b al b_32 := (fun h1 => h1.elim (fun e => absurd e (by omega)) (fun h => (fun h1 => pr_38 (.inr h1)) h))
          have pt_185 : ∀ q_, tabS b al q_ → ¬ own at2 q_ := (fun q_ h1 h2 => h1.elim (fun e => (fun h2 => pr_10 _ (.inl rfl) h2) (e ▸ h2)) (fun h => (fun q_ h1 h2 => pr_10 q_ (.inr h1) h2) q_ h h2))
          have pt_186 : ∀ q_, tabS b al q_ → ¬ own a_83 q_ := (fun q_ h1 h2 => h1.elim (fun e => pr_93 (e ▸ h2)) (fun h => (fun q_ h1 h2 => pr_94 q_ h2 h1) q_ h h2))
          have pt_187 : ∀ q_, tabS b al q_ → ¬ own am q_ := (fun q_ h1 h2 => h1.elim (fun e => pr_101 (e ▸ h2)) (fun h => (fun q_ h1 h2 => pr_104 q_ h2 h1) q_ h h2))
          have pt_188 : ∀ q_, tabS b al q_ → ¬ own (some ⟨b_153, 0, none⟩) q_ := (fun q_ h1 h2 => h1.elim (fun e => pr_159 (e ▸ h2)) (fun h => (fun q_ h1 h2 => pr_162 q_ h2 h1) q_ h h2))
          have pt_189 : ∀ q_, tabS b al q_ → ¬ own a_167 q_ := (fun q_ h1 h2 => h1.elim (fun e => pr_175 (e ▸ h2)) (fun h => (fun q_ h1 h2 => pr_177 q_ h2 h1) q_ h h2))
          have pt_190 : ∀ q_, tabS b al q_ → q_ < w.heap.size → (tabS b al) q_ := (fun q_ h1 hlt => h1.elim (fun e => e ▸ (Or.inl rfl)) (fun h => (fun q_ h1 hlt => pr_12 q_ (.inr h1) hlt) q_ h hlt))
          clear hb44 ho44
          have e : waiI T (i + 1) = _ := (waiI_succ hx).trans (wai1_ask (by omega) hc52)
          refine ih1 (i + 1) _ _ ?_ (by omega)
          rw [e]
          refine ⟨_, _, _, _, _, _, ⟨rfl, rfl, rfl, rfl, rfl, rfl, rfl, trivial⟩, K0, hT_183, ho_99, ho_7, ho_170, pt_187, pt_185, pt_189, pt_190, pr_102, (fun q_ h1 h2 => pr_179 q_ h2 h1), pr_106, (fun q_ h1 h2 => pr_176 q_ h2 h1), pr_17, pg_181, pr_107, pr_20, pw_182, ?_⟩
          · omega
      · try simp only [br] at hc52
        refine Run.seq ?_
        obtain ⟨k, hk⟩ : ∃ x_, (((waiI T i).T).l)[((p).target).toNat]? = some x_ := ⟨_, List.getElem?_eq_getElem (by rw [hl44]; omega)⟩
        refine Run.drawT [9] (m := 10) (by kernel_rfl) rfl ?_
        intro w_191 K_192
        replace ho_6 := ho_6.ext K_192
        replace ho_7 := ho_7.ext K_192
        replace ho_8 := ho_8.ext K_192
        replace hb_35 := hb_35.ext K_192
        replace hb44 := hb44.ext K_192
        replace ho44 := ho44.ext K_192
        replace K0 := K0.ext K_192
        refine ⟨fun w' => Blk w' b_32 [.int .i64 ((p).target), .int .i64 ((p).req), .int .i64 ((p).since), .bool ((p).others)] 107 ∧ Blk w' b (([.bool (true), .int .i64 (((waiI T i).T).self), .int .i64 (((waiI T i).T).now)] : List Value) ++ flat (((waiI T i).T).l) ++ ([.slice (al) (((waiI T i).T).pings.length) (cl), .int .i64 (((waiI T i).T).req), .bool (((waiI T i).T).begun), .int .i64 (((waiI T i).T).last), .int .i64 (((waiI T i).T).target)] : List Value)) 71 ∧ True, ?_⟩
        refine RT.takeP (v := .pointer (some ⟨b, 0, none⟩)) 0 rfl (by kernel_rfl) (.inr ⟨hb_35, hb44, trivial⟩) (fun _ => (x_moveP rfl)) ?_
        refine RT.takeP (v := .pointer (some ⟨b_32, 0, none⟩)) 1 rfl (by kernel_rfl) (.inr ⟨hb_35, hb44, trivial⟩) (fun _ => (x_fld (o' := 0) Try.underlying107 rfl ty3 rfl rfl rfl)) ?_
        refine RT.take (v := .int .i64 ((p).target)) 2 rfl (by kernel_rfl) ⟨hb_35, hb44, trivial⟩ (by rintro _ ⟨hb_35, hb44, -⟩; exact (x_ld (v := .int .i64 ((p).target)) ty3 rfl rfl (hb_35.cl.field (i := 0) rfl))) ?_
        refine RT.takeP (v := .pointer (some ⟨b, 0, none⟩)) 3 rfl (by kernel_rfl) (.inr ⟨hb_35, hb44, trivial⟩) (fun _ => (x_nilCheck rfl)) ?_
        refine RT.takeP (v := .pointer (some ⟨b, 3, none⟩)) 4 rfl (by kernel_rfl) (.inr ⟨hb_35, hb44, trivial⟩) (fun _ => (x_fld (o' := 3) Try.underlying71 rfl ty68 rfl rfl rfl)) ?_
        refine RT.takeP (v := .pointer (some ⟨b, 3 + ((p).target).toNat * 4, none⟩)) 5 rfl (by kernel_rfl) (.inr ⟨hb_35, hb44, trivial⟩) (fun _ => (x_idxA Try.underlying68 ty67 rfl rfl (by omega) (by omega))) ?_
        refine RT.takeP (v := .pointer (some ⟨b, 3 + ((p).target).toNat * 4 + 0, none⟩)) 6 rfl (by kernel_rfl) (.inr ⟨hb_35, hb44, trivial⟩) (fun _ => (x_fld (o' := 3 + ((p).target).toNat * 4 + 0) Try.underlying67 rfl ty23 rfl rfl rfl)) ?_
        obtain ⟨k, hk⟩ : ∃ x_, (((waiI T i).T).l)[((p).target).toNat]? = some x_ := ⟨_, List.getElem?_eq_getElem (by rw [hl44]; omega)⟩
        refine RT.take (v := .agg #[.int .i64 (((k).peer).node), .int .i64 (((k).peer).inc), .int .i64 (((k).peer).status)]) 7 rfl (by kernel_rfl) ⟨hb_35, hb44, trivial⟩ (by rintro _ ⟨hb_35, hb44, -⟩; exact (x_lds (cs := #[.int .i64 (((k).peer).node), .int .i64 (((k).peer).inc), .int .i64 (((k).peer).status)]) ty23 rfl rfl ((seg_cl hb44 hk).drop 0 3))) ?_
        refine RT.st 8 rfl (by kernel_rfl) rfl <| St1.alloc ty23 ?_
        intro b_193 w_194 hl_197 hb_196 K_195
        replace hb_196 : Blk w_194 b_193 [.int .i64 (0), .int .i64 (0), .int .i64 (0)] 23 := hb_196
        have ne_198 : b_32 < b_193 := Nat.lt_of_lt_of_le hb_35.lt hl_197
        have ne_199 : b < b_193 := Nat.lt_of_lt_of_le hb44.lt hl_197
        have pr_200 : ¬ own at1 b_193 := fun h => absurd (ho_6.own_lt _ h) (by omega)
        have pr_201 : ¬ own at2 b_193 := fun h => absurd (ho_7.own_lt _ h) (by omega)
        have pr_202 : ¬ own at3 b_193 := fun h => absurd (ho_8.own_lt _ h) (by omega)
        have pr_203 : ¬ own al b_193 := fun h => absurd (ho44.own_lt _ h) (by omega)
        have : w.heap.size ≤ b_193 := Nat.le_trans K0.size hl_197
        clear hl_197
        replace ho_6 := ho_6.ext K_195
        replace ho_7 := ho_7.ext K_195
        replace ho_8 := ho_8.ext K_195
        replace hb_35 := hb_35.ext K_195
        replace hb44 := hb44.ext K_195
        replace ho44 := ho44.ext K_195
        replace K0 := K0.ext K_195
        refine ⟨.inr ⟨hb_35, hb44, trivial⟩, ?_⟩
        refine RT.st 9 rfl (by kernel_rfl) rfl <| St1.store (v := .agg #[.int .i64 (((k).peer).node), .int .i64 (((k).peer).inc), .int .i64 (((k).peer).status)]) ty23 rfl rfl rfl (by simp [Value.cells, Value.oneCell']) hb_196 (by simp) ?_
        intro w_204 hb_196_ K_205
        have hb_196' : Blk w_204 b_193 [.int .i64 (((k).peer).node), .int .i64 (((k).peer).inc), .int .i64 (((k).peer).status)] 23 := hb_196_
        clear hb_196_
        replace ho_6 := ho_6.keepO K_205 (fun q_ hq_ eq_ => pr_200 (by simp only [one] at eq_; rw [← eq_]; exact hq_))
        replace ho_7 := ho_7.keepO K_205 (fun q_ hq_ eq_ => pr_201 (by simp only [one] at eq_; rw [← eq_]; exact hq_))
        replace ho_8 := ho_8.keepO K_205 (fun q_ hq_ eq_ => pr_202 (by simp only [one] at eq_; rw [← eq_]; exact hq_))
        replace hb_35 := hb_35.keep K_205 (by simp only [one]; omega)
        replace hb44 := hb44.keep K_205 (by simp only [one]; omega)
        replace ho44 := ho44.keepO K_205 (fun q_ hq_ eq_ => pr_203 (by simp only [one] at eq_; rw [← eq_]; exact hq_))
        replace K0 := K0.trans K_205 (fun x hlt hx => absurd hlt (by simp only [one] at hx; omega))
        replace hb_196 := hb_196'
        clear hb_196'
        refine ⟨.inl (by kernel_rfl), ?_⟩
        refine RT.done (by kernel_rfl) ?_
        refine Run.seq ?_
        refine Run.region ?_
        refine RL.val (x_fld (o' := 2) Try.underlying23 rfl ty3 rfl rfl rfl) ?_
        refine RL.val (x_ld (v := .int .i64 (((k).peer).status)) ty3 rfl rfl (hb_196.cl.field (i := 2) rfl)) ?_
        refine RL.val (x_eqI rfl rfl) ?_
        refine RL.nil ?_
        refine Run.cond rfl (fun hc31 => ?_) (fun hc31 => ?_)
        · try simp only [br] at hc31
          refine Run.seq ?_
          refine Run.region ?_
          refine RL.val (x_fld (o' := 2) Try.underlying23 rfl ty3 rfl rfl rfl) ?_
          refine RL.st rfl <| St1.store (v := .int .i64 (2)) ty3 rfl rfl rfl (by simp [Value.cells, Value.oneCell']) hb_196 (by simp) ?_
          intro w_206 hb_196_ K_207
          have hb_196' : Blk w_206 b_193 [.int .i64 (((k).peer).node), .int .i64 (((k).peer).inc), .int .i64 (2)] 23 := hb_196_
          clear hb_196_
          replace ho_6 := ho_6.keepO K_207 (fun q_ hq_ eq_ => pr_200 (by simp only [one] at eq_; rw [← eq_]; exact hq_))
          replace ho_7 := ho_7.keepO K_207 (fun q_ hq_ eq_ => pr_201 (by simp only [one] at eq_; rw [← eq_]; exact hq_))
          replace ho_8 := ho_8.keepO K_207 (fun q_ hq_ eq_ => pr_202 (by simp only [one] at eq_; rw [← eq_]; exact hq_))
          replace hb_35 := hb_35.keep K_207 (by simp only [one]; omega)
          replace hb44 := hb44.keep K_207 (by simp only [one]; omega)
          replace ho44 := ho44.keepO K_207 (fun q_ hq_ eq_ => pr_203 (by simp only [one] at eq_; rw [← eq_]; exact hq_))
          replace K0 := K0.trans K_207 (fun x hlt hx => absurd hlt (by simp only [one] at hx; omega))
          replace hb_196 := hb_196'
          clear hb_196'
          refine RL.nil ?_
          have hkn := (hwo.ok.known _ k hk).2.2 (by omega)
          refine Run.region ?_
          refine RL.val (x_moveSl rfl) ?_
          refine RL.val (x_moveP rfl) ?_
          refine RL.val (x_lds (cs := #[.int .i64 (((k).peer).node), .int .i64 (((k).peer).inc), .int .i64 (2)]) ty23 rfl rfl (hb_196.cl.drop 0 3)) ?_
          have hT_208 : TabAt w_206 b al cl ((waiI T i).T) := ⟨hb44, ho44, hap44, ok44⟩
          have pt_209 : ∀ q_, tabS b al q_ → ¬ own at1 q_ := (fun q_ h1 h2 => h1.elim (fun e => (fun h2 => pr_9 _ (.inl rfl) h2) (e ▸ h2)) (fun h => (fun q_ h1 h2 => pr_9 q_ (.inr h1) h2) q_ h h2))
          have pt_210 : ∀ q_, tabS b al q_ → ¬ own at2 q_ := (fun q_ h1 h2 => h1.elim (fun e => (fun h2 => pr_10 _ (.inl rfl) h2) (e ▸ h2)) (fun h => (fun q_ h1 h2 => pr_10 q_ (.inr h1) h2) q_ h h2))
          have pt_211 : ∀ q_, tabS b al q_ → ¬ own at3 q_ := (fun q_ h1 h2 => h1.elim (fun e => (fun h2 => pr_11 _ (.inl rfl) h2) (e ▸ h2)) (fun h => (fun q_ h1 h2 => pr_11 q_ (.inr h1) h2) q_ h h2))
          have pt_212 : ¬ tabS b al b_32 := (fun h1 => h1.elim (fun e => absurd e (by omega)) (fun h => (fun h1 => pr_38 (.inr h1)) h))
          have pt_213 : ¬ tabS b al b_193 := (fun h1 => h1.elim (fun e => absurd e (by omega)) (fun h => pr_203 h))
          have pt_214 : ∀ q_, tabS b al q_ → q_ < w.heap.size → (tabS b al) q_ := (fun q_ h1 hlt => h1.elim (fun e => e ▸ (Or.inl rfl)) (fun h => (fun q_ h1 hlt => pr_12 q_ (.inr h1) hlt) q_ h hlt))
          clear hb44 ho44
          refine RL.st rfl <| St1.call (vals := [.pointer (some ⟨b, 0, none⟩), .agg #[.int .i64 (((k).peer).node), .int .i64 (((k).peer).inc), .int .i64 (2)]]) en42 rfl (learn_ _ _ _ ((waiI T i).T) (⟨((k).peer).node, ((k).peer).inc, 2⟩ : Peer) _ hT_208 (by first | omega | (simp only; omega))) ?_
          rintro _ w_215 ⟨rfl, hT_216, K_217⟩
          replace ho_6 := ho_6.keepO K_217 (fun q_ h1 h2 => pt_209 q_ h2 h1)
          replace ho_7 := ho_7.keepO K_217 (fun q_ h1 h2 => pt_210 q_ h2 h1)
          replace ho_8 := ho_8.keepO K_217 (fun q_ h1 h2 => pt_211 q_ h2 h1)
          replace hb_35 := hb_35.keep K_217 pt_212
          replace hb_196 := hb_196.keep K_217 pt_213
          replace K0 := K0.trans K_217 (fun x hlt hx => pt_214 x hx hlt)
          replace hT_208 := hT_216
          clear hT_216
          refine RL.st rfl <| St1.buildSlice ([(⟨((k).peer).node, ((k).peer).inc, 2⟩ : Peer)] : List Peer) Try.underlying32 ty23 rfl rfl (by first | decide | (simp [Enc.size])) ?_
          intro b_218 w_219 hl_222 ho_221 K_220
          have pr_223 : ∀ q_, own (some ⟨b_218, 0, none⟩) q_ → ¬ own at1 q_ := apartNew (ge_new hl_222) ho_6.own_lt
          have pr_224 : ∀ q_, own (some ⟨b_218, 0, none⟩) q_ → ¬ own at2 q_ := apartNew (ge_new hl_222) ho_7.own_lt
          have pr_225 : ∀ q_, own (some ⟨b_218, 0, none⟩) q_ → ¬ own at3 q_ := apartNew (ge_new hl_222) ho_8.own_lt
          have pr_226 : ¬ own (some ⟨b_218, 0, none⟩) b_32 := notNew (ge_new hl_222) hb_35.lt
          have pr_227 : ¬ own (some ⟨b_218, 0, none⟩) b_193 := notNew (ge_new hl_222) hb_196.lt
          have pr_228 : ∀ q_, own (some ⟨b_218, 0, none⟩) q_ → ¬ tabS b al q_ := apartNew (ge_new hl_222) hT_208.own_lt
          have pg_229 : ∀ q_, own (some ⟨b_218, 0, none⟩) q_ → q_ < w.heap.size → (tabS b al) q_ := fun q_ h hlt => absurd (Nat.le_trans K0.size ((ge_new hl_222) q_ h)) (by omega)
          have pw_230 : ∀ q_, own (some ⟨b_218, 0, none⟩) q_ → w.heap.size ≤ q_ := fun q_ h => Nat.le_trans K0.size ((ge_new hl_222) q_ h)
          clear hl_222
          replace ho_6 := ho_6.ext K_220
          replace ho_7 := ho_7.ext K_220
          replace ho_8 := ho_8.ext K_220
          replace hb_35 := hb_35.ext K_220
          replace hb_196 := hb_196.ext K_220
          replace hT_208 := hT_208.ext K_220
          replace K0 := K0.ext K_220
          refine RL.st rfl <| St1.append (xs := (waiI T i).told) (ys := ([(⟨((k).peer).node, ((k).peer).inc, 2⟩ : Peer)] : List Peer)) Try.underlying32 ty23 rfl rfl rfl ho_7 ho_221.sl (by first | omega | (simp only [lr]; omega)) (by decide) ?_
          intro a_231 c_232 w_233 ho_234 K_235 hm_236 hrm_237
          have pr_238 : ∀ q_, own a_231 q_ → ¬ own at1 q_ := hm_236.apart (fun q_ h1 h2 => pr_13 q_ h2 h1) ho_6.own_lt
          have pr_239 : ∀ q_, own a_231 q_ → ¬ own at3 q_ := hm_236.apart pr_16 ho_8.own_lt
          have pr_240 : ¬ own a_231 b_32 := hm_236.not pr_40 hb_35.lt
          have pr_241 : ¬ own a_231 b_193 := hm_236.not pr_201 hb_196.lt
          have pr_242 : ∀ q_, own a_231 q_ → ¬ tabS b al q_ := hm_236.apart (fun q_ h1 h2 => pt_210 q_ h2 h1) hT_208.own_lt
          have pr_243 : ∀ q_, own a_231 q_ → ¬ own (some ⟨b_218, 0, none⟩) q_ := hm_236.apart (fun q_ h1 h2 => pr_224 q_ h2 h1) ho_221.own_lt
          have pg_244 : ∀ q_, own a_231 q_ → q_ < w.heap.size → (tabS b al) q_ := hm_236.inS pr_17 K0.size
          have pw_245 : ∀ q_, own a_231 q_ → w.heap.size ≤ q_ := hm_236.ge pr_20 K0.size
          replace ho_6 := ho_6.keepO K_235 pr_13
          replace ho_8 := ho_8.keepO K_235 (fun q_ h1 h2 => pr_16 q_ h2 h1)
          replace hb_35 := hb_35.keep K_235 pr_40
          replace hb_196 := hb_196.keep K_235 pr_201
          replace hT_208 := hT_208.keepO K_235 pt_210
          replace ho_221 := ho_221.keepO K_235 pr_224
          replace K0 := K0.trans K_235 (fun x hlt hx => pr_17 x hx hlt)
          clear hm_236
          clear hrm_237
          refine RL.val (x_assignSl rfl) ?_
          refine RL.nil ?_
          refine Run.inBlock ?_
          refine Run.inBlock ?_
          refine Run.region ?_
          refine RL.val (litI (c := ((i + 1 : Nat) : Int)) (x_add rfl rfl (by omega) (by omega)) rfl) ?_
          refine RL.val (x_moveI rfl) ?_
          refine RL.nil ?_
          have e : waiI T (i + 1) = _ := (waiI_succ hx).trans (wai1_sus (by omega) hc52 hk hc31)
          refine ih1 (i + 1) _ _ ?_ (by omega)
          rw [e]
          refine ⟨_, _, _, _, _, _, ⟨rfl, rfl, rfl, rfl, rfl, rfl, rfl, trivial⟩, K0, hT_208, ho_6, ho_234, ho_8, pt_209, (fun q_ h1 h2 => pr_242 q_ h2 h1), pt_211, pt_214, (fun q_ h1 h2 => pr_238 q_ h2 h1), pr_14, pr_15, pr_239, pg_244, pr_18, pr_19, pw_245, pr_21, ?_⟩
          · omega
        · try simp only [br] at hc31
          refine Run.skip ?_
          refine Run.inBlock ?_
          refine Run.inBlock ?_
          refine Run.region ?_
          refine RL.val (litI (c := ((i + 1 : Nat) : Int)) (x_add rfl rfl (by omega) (by omega)) rfl) ?_
          refine RL.val (x_moveI rfl) ?_
          refine RL.nil ?_
          have hT_246 : TabAt w_204 b al cl ((waiI T i).T) := ⟨hb44, ho44, hap44, ok44⟩
          have pt_247 : ∀ q_, tabS b al q_ → ¬ own at1 q_ := (fun q_ h1 h2 => h1.elim (fun e => (fun h2 => pr_9 _ (.inl rfl) h2) (e ▸ h2)) (fun h => (fun q_ h1 h2 => pr_9 q_ (.inr h1) h2) q_ h h2))
          have pt_248 : ∀ q_, tabS b al q_ → ¬ own at2 q_ := (fun q_ h1 h2 => h1.elim (fun e => (fun h2 => pr_10 _ (.inl rfl) h2) (e ▸ h2)) (fun h => (fun q_ h1 h2 => pr_10 q_ (.inr h1) h2) q_ h h2))
          have pt_249 : ∀ q_, tabS b al q_ → ¬ own at3 q_ := (fun q_ h1 h2 => h1.elim (fun e => (fun h2 => pr_11 _ (.inl rfl) h2) (e ▸ h2)) (fun h => (fun q_ h1 h2 => pr_11 q_ (.inr h1) h2) q_ h h2))
          have pt_250 : ¬ tabS b al b_32 := (fun h1 => h1.elim (fun e => absurd e (by omega)) (fun h => (fun h1 => pr_38 (.inr h1)) h))
          have pt_251 : ¬ tabS b al b_193 := (fun h1 => h1.elim (fun e => absurd e (by omega)) (fun h => pr_203 h))
          have pt_252 : ∀ q_, tabS b al q_ → q_ < w.heap.size → (tabS b al) q_ := (fun q_ h1 hlt => h1.elim (fun e => e ▸ (Or.inl rfl)) (fun h => (fun q_ h1 hlt => pr_12 q_ (.inr h1) hlt) q_ h hlt))
          clear hb44 ho44
          have e : waiI T (i + 1) = _ := (waiI_succ hx).trans (wai1_no (by omega) hc52 hk hc31)
          refine ih1 (i + 1) _ _ ?_ (by omega)
          rw [e]
          refine ⟨_, _, _, _, _, _, ⟨rfl, rfl, rfl, rfl, rfl, rfl, rfl, trivial⟩, K0, hT_246, ho_6, ho_7, ho_8, pt_247, pt_248, pt_249, pt_252, pr_13, pr_14, pr_15, pr_16, pr_17, pr_18, pr_19, pr_20, pr_21, ?_⟩
          · omega
  · try simp only [br] at hc18
    refine Run.exit rfl ?_
    refine Run.seq ?_
    have hil : i = T.pings.length := by omega
    have hwk := waited_ok T hok
    obtain ⟨hb253, ho253, hap253, ok253⟩ := hO_5
    have hl253 := ok253.len
    replace hb253 : Blk w_3 b (([.bool (true), .int .i64 (((waiI T i).T).self), .int .i64 (((waiI T i).T).now)] : List Value) ++ flat (((waiI T i).T).l) ++ ([.slice (al) (((waiI T i).T).pings.length) (cl), .int .i64 (((waiI T i).T).req), .bool (((waiI T i).T).begun), .int .i64 (((waiI T i).T).last), .int .i64 (((waiI T i).T).target)] : List Value)) 71 := hb253
    refine Run.region ?_
    refine RL.val (x_moveP rfl) ?_
    refine RL.val (x_moveSl rfl) ?_
    refine RL.val (x_nilCheck rfl) ?_
    refine RL.val (x_fld (o' := 35) Try.underlying71 rfl ty69 rfl rfl rfl) ?_
    refine RL.st rfl <| St1.store (v := .slice (at3) (((waiI T i).left).length) (ct3)) ty69 rfl rfl rfl (by simp [Value.cells, Value.oneCell']) hb253 (by rw [seg_len, hl253]; show _ ≤ 3 + 8 * 4 + 5; omega) ?_
    intro w_254 hb253_ K_255
    have hb253' : Blk w_254 b (([.bool (true), .int .i64 (((waiI T i).T).self), .int .i64 (((waiI T i).T).now)] : List Value) ++ flat (((waiI T i).T).l) ++ ([.slice (at3) (((waiI T i).left).length) (ct3), .int .i64 (((waiI T i).T).req), .bool (((waiI T i).T).begun), .int .i64 (((waiI T i).T).last), .int .i64 (((waiI T i).T).target)] : List Value)) 71 := (by have h_ := blk_st_tail (j := 0) hb253_ hl253 rfl; exact h_)
    clear hb253_
    replace ho_6 := ho_6.keepO K_255 (fun q_ hq_ eq_ => (fun h2 => pr_9 _ (.inl rfl) h2) (by simp only [one] at eq_; rw [← eq_]; exact hq_))
    replace ho_7 := ho_7.keepO K_255 (fun q_ hq_ eq_ => (fun h2 => pr_10 _ (.inl rfl) h2) (by simp only [one] at eq_; rw [← eq_]; exact hq_))
    replace ho_8 := ho_8.keepO K_255 (fun q_ hq_ eq_ => (fun h2 => pr_11 _ (.inl rfl) h2) (by simp only [one] at eq_; rw [← eq_]; exact hq_))
    replace ho253 := ho253.keepO K_255 (fun q_ hq_ eq_ => hap253 (by simp only [one] at eq_; rw [← eq_]; exact hq_))
    replace K0 := K0.trans K_255 (fun x _ hx => by simp only [one] at hx; subst hx; exact (Or.inl rfl))
    replace hb253 := hb253'
    clear hb253'
    refine RL.nil ?_
    refine Run.seq ?_
    refine Run.region ?_
    refine RL.val (x_moveSl rfl) ?_
    refine RL.val (x_moveSl rfl) ?_
    refine RL.val (x_assignSl rfl) ?_
    refine RL.val (x_assignSl rfl) ?_
    refine RL.nil ?_
    refine Run.ret2 (v := .slice (at1) (((waiI T i).out).length) (ct1)) (x := .slice (at2) (((waiI T i).told).length) (ct2)) Try.func44 rfl rfl rfl ?_
    subst hil
    have hfm : ∀ x, own at1 x → w.heap.size ≤ x := fun x hx => Nat.le_of_not_lt fun hlt => (pr_15 x hx hlt).elim (fun e => (fun h2 => pr_9 _ (.inl rfl) h2) (e ▸ hx)) (fun h => (fun q_ h1 h2 => (fun q_ h1 h2 => pr_9 q_ (.inr h1) h2) q_ h2 h1) x hx h)
    have hfp : ∀ x, own at2 x → w.heap.size ≤ x := fun x hx => Nat.le_of_not_lt fun hlt => (pr_17 x hx hlt).elim (fun e => (fun h2 => pr_10 _ (.inl rfl) h2) (e ▸ hx)) (fun h => (fun q_ h1 h2 => (fun q_ h1 h2 => pr_10 q_ (.inr h1) h2) q_ h2 h1) x hx h)
    have hT_256 : TabAt w_254 b at3 ct3 ((waitedT T).T) := ⟨hb253, ho_8, (fun h2 => pr_11 _ (.inl rfl) h2), hwk⟩
    have pt_257 : ∀ q_, tabS b at3 q_ → ¬ own at1 q_ := (fun q_ h1 h2 => h1.elim (fun e => (fun h2 => pr_9 _ (.inl rfl) h2) (e ▸ h2)) (fun h => (fun q_ h1 h2 => pr_14 q_ h2 h1) q_ h h2))
    have pt_258 : ∀ q_, tabS b at3 q_ → ¬ own at2 q_ := (fun q_ h1 h2 => h1.elim (fun e => (fun h2 => pr_10 _ (.inl rfl) h2) (e ▸ h2)) (fun h => (fun q_ h1 h2 => pr_16 q_ h2 h1) q_ h h2))
    have pt_259 : ∀ q_, tabS b at3 q_ → ¬ own al q_ := (fun q_ h1 h2 => h1.elim (fun e => hap253 (e ▸ h2)) (fun h => (fun q_ h1 h2 => (fun q_ h1 h2 => pr_11 q_ (.inr h1) h2) q_ h2 h1) q_ h h2))
    have pt_260 : ∀ q_, tabS b at3 q_ → q_ < w.heap.size → (tabS b al) q_ := (fun q_ h1 hlt => h1.elim (fun e => e ▸ (Or.inl rfl)) (fun h => pr_18 q_ h hlt))
    clear hb253 ho_8
    exact ⟨_, rfl, at3, ct3, at1, ct1, at2, ct2, rfl, hT_256, ho_6, ho_7, hfm, hfp, (fun q_ h1 h2 => pt_257 q_ h2 h1), (fun q_ h1 h2 => pt_258 q_ h2 h1), pr_13, tabMoved' (fun x hx hlt => (pt_260 x (.inr hx) hlt)), K0⟩

end Go.Proofs.Ytagfdmdajmkddaa
