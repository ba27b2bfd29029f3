/-
  Layer 12's walks: Tick, On.
-/
import Derived.Test.YtagfdmdajmkddaaRows
import Derived.Test.YtagfdmdajmkddaaLe
namespace Go.Proofs.Ytagfdmdajmkddaa
attribute [local irreducible] St1 RL RA RT RT1 Run

open Sa
theorem oldT_ok {T : Tab} (h : TabOk T) : TabOk (oldT T).1 ∧ (oldT T).2.length ≤ 8 ∧ (oldT T).1.pings = T.pings := old_ok T h 8
theorem waitedT_len {T : Tab} (h : TabOk T) : (waitedT T).out.length ≤ 2 * T.pings.length ∧ (waitedT T).told.length ≤ T.pings.length ∧ (waitedT T).T.pings.length ≤ T.pings.length := by
  have := wai_ok T h T.pings.length (Nat.le_refl _)
  exact ⟨this.out, this.told, this.left⟩
section
attribute [local irreducible] oldT waitedT beginT
theorem tick_ok {T : Tab} {t : Int} (h : TabOk T) (ht : t ≤ 9223372036854775807) : TabOk (tick T t).T ∧ (tick T t).out.length ≤ 2 * T.pings.length + 1 ∧ (tick T t).told.length ≤ T.pings.length + 8 ∧ (tick T t).T.pings.length ≤ T.pings.length + 1 := by
  have h1 := passT_ok h ht
  obtain ⟨h2, h3, h4⟩ := oldT_ok h1
  have h5 := waited_ok _ h2
  obtain ⟨h6, h7, h8⟩ := waitedT_len h2
  obtain ⟨h9, h10, h11⟩ := begin_ok h5
  have e : (passT T t).pings = T.pings := rfl
  rw [h4, e] at h6 h7 h8
  refine ⟨h9, ?_, ?_, ?_⟩
  · show ((waitedT (oldT (passT T t)).1).out ++ (beginT (waitedT (oldT (passT T t)).1).T).2).length ≤ _
    rw [List.length_append]; omega
  · show ((oldT (passT T t)).2 ++ (waitedT (oldT (passT T t)).1).told).length ≤ _
    rw [List.length_append]; omega
  · show (beginT (waitedT (oldT (passT T t)).1).T).1.pings.length ≤ _
    omega
end
theorem meetT_ok {T : Tab} {n : Int} (h : TabOk T) (hn : 0 ≤ n ∧ n < 8) : TabOk (meetT T n).1 ∧ (meetT T n).2.length ≤ 1 ∧ (meetT T n).1.pings = T.pings := by
  unfold meetT
  split
  · exact ⟨h, by simp, rfl⟩
  · split
    · exact ⟨learnT_ok h hn, by simp, rfl⟩
    · exact ⟨h, by simp, rfl⟩
theorem on_no {T : Tab} {m : MsgC} {t : Int} (h : (((m.kind ≠ 6 ∧ m.kind ≠ 7) ∨ m.frm < 0) ∨ 8 ≤ m.frm) ∨ m.frm = T.self) : on T m t = ⟨passT T t, [], []⟩ := by rw [on, if_pos h]
theorem on_ping {T : Tab} {m : MsgC} {t : Int} (h : ¬ ((((m.kind ≠ 6 ∧ m.kind ≠ 7) ∨ m.frm < 0) ∨ 8 ≤ m.frm) ∨ m.frm = T.self)) (h6 : m.kind = 6) : on T m t = ⟨(meetT (passT T t) m.frm).1, pingedT (meetT (passT T t) m.frm).1 m, (meetT (passT T t) m.frm).2⟩ := by
  rw [on, if_neg h]; simp only [if_pos h6]
theorem on_pong {T : Tab} {m : MsgC} {t : Int} (h : ¬ ((((m.kind ≠ 6 ∧ m.kind ≠ 7) ∨ m.frm < 0) ∨ 8 ≤ m.frm) ∨ m.frm = T.self)) (h6 : ¬ m.kind = 6) : on T m t = ⟨(pongedT (meetT (passT T t) m.frm).1 m).1, (pongedT (meetT (passT T t) m.frm).1 m).2, (meetT (passT T t) m.frm).2⟩ := by
  rw [on, if_neg h]; simp only [if_neg h6]
theorem meet_new {T : Tab} {n : Int} {k : KnownM} (hk : T.l[n.toNat]? = some k) (h : k.peer.status = 0) : meetT T n = (learnT T ⟨n, 0, 1⟩, [⟨n, 0, 1⟩]) := by rw [meetT, hk]; simp only [if_pos h]
theorem meet_old {T : Tab} {n : Int} {k : KnownM} (hk : T.l[n.toNat]? = some k) (h : ¬ k.peer.status = 0) : meetT T n = (T, []) := by rw [meetT, hk]; simp only [if_neg h]
theorem on_ok {T : Tab} {m : MsgC} {t : Int} (h : TabOk T) (ht : t ≤ 9223372036854775807) : TabOk (on T m t).T ∧ (on T m t).out.length ≤ 1 ∧ (on T m t).told.length ≤ 1 ∧ (on T m t).T.pings.length ≤ T.pings.length := by
  have h1 := passT_ok h ht
  by_cases hc : (((m.kind ≠ 6 ∧ m.kind ≠ 7) ∨ m.frm < 0) ∨ 8 ≤ m.frm) ∨ m.frm = T.self
  · rw [on_no hc]; exact ⟨h1, by simp, by simp, Nat.le_refl _⟩
  · obtain ⟨h2, h3, h4⟩ := meetT_ok (n := m.frm) h1 (by omega)
    have e : (passT T t).pings = T.pings := rfl
    by_cases h6 : m.kind = 6
    · rw [on_ping hc h6]
      exact ⟨h2, pinged_len _ _, h3, by simp only; rw [h4, e]; exact Nat.le_refl _⟩
    · rw [on_pong hc h6]
      obtain ⟨h7, h8, h9⟩ := ponged_ok (m := m) h2
      exact ⟨h7, h8, h3, by rw [h4, e] at h9; exact h9⟩
attribute [local irreducible] oldT waitedT beginT meetT

theorem en43 : Enters Try.prog 43 := enters_of Try.func43 rfl (by kernel_rfl)
theorem en44 : Enters Try.prog 44 := enters_of Try.func44 rfl (by kernel_rfl)
theorem en45 : Enters Try.prog 45 := enters_of Try.func45 rfl (by kernel_rfl)
theorem en46 : Enters Try.prog 46 := enters_of Try.func46 rfl (by kernel_rfl)
theorem en47 : Enters Try.prog 47 := enters_of Try.func47 rfl (by kernel_rfl)
theorem en65 : Enters Try.prog 65 := enters_of Try.func65 rfl (by kernel_rfl)
theorem en66 : Enters Try.prog 66 := enters_of Try.func66 rfl (by kernel_rfl)

set_option maxRecDepth 100000 in
set_option maxHeartbeats 4000000 in
theorem tick_ (b : Nat) (al : Option Addr) (cl : Nat) (T : Tab) (t : Int) (w : World) (hT : TabAt w b al cl T) (ht : t ≤ 9223372036854775807) (hpl : T.pings.length ≤ 1048575) :
    Calls Try.prog 16 #[.pointer (some ⟨b, 0, none⟩), .int .i64 (t)] w (Ret (fun v w' => ∃ al' cl' a0 c0 a1 c1, v = .tuple #[.slice a0 (tick T t).out.length c0, .slice a1 (tick T t).told.length c1] ∧ TabAt w' b al' cl' ((tick T t).T) ∧ OwnSl w' 61 a0 c0 ((tick T t).out) ∧ OwnSl w' 23 a1 c1 ((tick T t).told) ∧ (∀ x, own a0 x → w.heap.size ≤ x) ∧ (∀ x, own a1 x → w.heap.size ≤ x) ∧ (∀ x, own a0 x → ¬ tabS b al' x) ∧ (∀ x, own a1 x → ¬ tabS b al' x) ∧ (∀ x, own a0 x → ¬ own a1 x) ∧ MovedS w (tabS b al) (tabS b al') ∧ Keeps (tabS b al) w w')) := by
  have hz0 : ∀ q_, tabS b al q_ → q_ < w.heap.size → tabS b al q_ := fun _ h _ => h
  have h1_ := passT_ok hT.ok ht
  obtain ⟨h2_, h3_, h4_⟩ := oldT_ok h1_
  have h5_ := waited_ok _ h2_
  obtain ⟨h6_, h7_, h8_⟩ := waitedT_len h2_
  obtain ⟨h9_, h10_, h11_⟩ := begin_ok h5_
  have e_ : (passT T t).pings = T.pings := rfl
  rw [h4_, e_] at h6_ h7_ h8_
  have h12_ : (oldT (passT T t)).1.pings.length = T.pings.length := by rw [h4_]; rfl
  refine calls_run (n := 29) Try.func16 rfl rfl rfl ?_
  refine Run.seq ?_
  refine Run.region ?_
  refine RL.val (x_assignSl rfl) ?_
  refine RL.val (x_assignSl rfl) ?_
  refine RL.nil ?_
  refine Run.seq ?_
  refine Run.seq ?_
  refine Run.region ?_
  refine RL.val (x_moveP rfl) ?_
  refine RL.st rfl <| St1.call (vals := [.pointer (some ⟨b, 0, none⟩)]) en38 rfl (there_ _ _ _ T _ hT.blk hT.ok.len) ?_
  rintro _ w_1 ⟨rfl, K_2⟩
  replace hT := hT.ext K_2
  have K0 := (K_2 : Ext w _).to (S := (tabS b al))
  refine RL.val (x_not rfl) ?_
  refine RL.nil ?_
  refine Run.condF rfl ?_
  refine Run.skip ?_
  refine Run.seq ?_
  refine Run.region ?_
  refine RL.val (x_moveP rfl) ?_
  refine RL.val (x_moveI rfl) ?_
  refine RL.st rfl <| St1.call (vals := [.pointer (some ⟨b, 0, none⟩), .int .i64 (t)]) en39 rfl (pass_ _ _ _ T t _ hT (by omega)) ?_
  rintro _ w_3 ⟨rfl, hT_4, K_5⟩
  replace K0 := K0.trans K_5 (fun x hlt hx => hz0 x hx hlt)
  replace hT := hT_4
  clear hT_4
  refine RL.nil ?_
  refine Run.seq ?_
  refine Run.region ?_
  refine RL.val (x_moveP rfl) ?_
  refine RL.st rfl <| St1.call (vals := [.pointer (some ⟨b, 0, none⟩)]) en43 rfl (old_ _ _ _ (passT T t) _ hT) ?_
  rintro _ w_8 ⟨a_6, c_7, rfl, ho_9, hg_10, hT_11, K_12⟩
  have pr_13 : ∀ q_, own a_6 q_ → ¬ tabS b al q_ := apartNew hg_10 hT.own_lt
  have pg_14 : ∀ q_, own a_6 q_ → q_ < w.heap.size → (tabS b al) q_ := fun q_ h hlt => absurd (Nat.le_trans K0.size (hg_10 q_ h)) (by omega)
  have pw_15 : ∀ q_, own a_6 q_ → w.heap.size ≤ q_ := fun q_ h => Nat.le_trans K0.size (hg_10 q_ h)
  clear hg_10
  replace K0 := K0.trans K_12 (fun x hlt hx => hz0 x hx hlt)
  replace hT := hT_11
  clear hT_11
  refine RL.val (x_assignSl rfl) ?_
  refine RL.nil ?_
  refine Run.seq ?_
  refine Run.region ?_
  refine RL.val (x_moveP rfl) ?_
  refine RL.st rfl <| St1.call (vals := [.pointer (some ⟨b, 0, none⟩)]) en44 rfl (waited_ _ _ _ ((oldT (passT T t)).1)  _ hT (by omega)) ?_
  rintro _ w_18 ⟨al_16, cl_17, a_22, c_23, a_24, c_25, rfl, hT_19, ho_26, ho_27, hg_28, hg_29, pr_30, pr_31, pr_32, hm_20, K_21⟩
  have pr_33 : ∀ q_, own a_22 q_ → ¬ tabS b al q_ := apartNew hg_28 hT.own_lt
  have pr_34 : ∀ q_, own a_22 q_ → ¬ own a_6 q_ := apartNew hg_28 ho_9.own_lt
  have pg_35 : ∀ q_, own a_22 q_ → q_ < w.heap.size → (tabS b al) q_ := fun q_ h hlt => absurd (Nat.le_trans K0.size (hg_28 q_ h)) (by omega)
  have pw_36 : ∀ q_, own a_22 q_ → w.heap.size ≤ q_ := fun q_ h => Nat.le_trans K0.size (hg_28 q_ h)
  have pr_37 : ∀ q_, own a_24 q_ → ¬ tabS b al q_ := apartNew hg_29 hT.own_lt
  have pr_38 : ∀ q_, own a_24 q_ → ¬ own a_6 q_ := apartNew hg_29 ho_9.own_lt
  have pg_39 : ∀ q_, own a_24 q_ → q_ < w.heap.size → (tabS b al) q_ := fun q_ h hlt => absurd (Nat.le_trans K0.size (hg_29 q_ h)) (by omega)
  have pw_40 : ∀ q_, own a_24 q_ → w.heap.size ≤ q_ := fun q_ h => Nat.le_trans K0.size (hg_29 q_ h)
  have pr_41 : ∀ q_, tabS b al_16 q_ → ¬ own a_6 q_ := hm_20.apart (fun q_ h1 h2 => pr_13 q_ h2 h1) ho_9.own_lt
  have pg_42 : ∀ q_, tabS b al_16 q_ → q_ < w.heap.size → (tabS b al) q_ := hm_20.inS hz0 K0.size
  replace ho_9 := ho_9.keepO K_21 pr_13
  replace K0 := K0.trans K_21 (fun x hlt hx => hz0 x hx hlt)
  clear hm_20
  clear hg_28 hg_29
  refine RL.val (x_moveT rfl) ?_
  refine RL.val (x_extract rfl rfl) ?_
  refine RL.val (x_extract rfl rfl) ?_
  refine RL.val (x_assignSl rfl) ?_
  refine RL.val (x_assignSl rfl) ?_
  refine RL.nil ?_
  refine Run.seq ?_
  refine Run.region ?_
  refine RL.val (x_moveSl rfl) ?_
  refine RL.val (x_moveP rfl) ?_
  refine RL.st rfl <| St1.call (vals := [.pointer (some ⟨b, 0, none⟩)]) en45 rfl (begin_ _ _ _ ((waitedT ((oldT (passT T t)).1)).T)  _ hT_19 (by omega)) ?_
  rintro _ w_45 ⟨al_43, cl_44, a_49, c_50, rfl, hT_46, ho_51, hg_52, pr_53, hm_47, K_48⟩
  have pr_54 : ∀ q_, own a_49 q_ → ¬ own a_6 q_ := apartNew hg_52 ho_9.own_lt
  have pr_55 : ∀ q_, own a_49 q_ → ¬ tabS b al_16 q_ := apartNew hg_52 hT_19.own_lt
  have pr_56 : ∀ q_, own a_49 q_ → ¬ own a_22 q_ := apartNew hg_52 ho_26.own_lt
  have pr_57 : ∀ q_, own a_49 q_ → ¬ own a_24 q_ := apartNew hg_52 ho_27.own_lt
  have pg_58 : ∀ q_, own a_49 q_ → q_ < w.heap.size → (tabS b al) q_ := fun q_ h hlt => absurd (Nat.le_trans K0.size (hg_52 q_ h)) (by omega)
  have pw_59 : ∀ q_, own a_49 q_ → w.heap.size ≤ q_ := fun q_ h => Nat.le_trans K0.size (hg_52 q_ h)
  have pr_60 : ∀ q_, tabS b al_43 q_ → ¬ own a_6 q_ := hm_47.apart pr_41 ho_9.own_lt
  have pr_61 : ∀ q_, tabS b al_43 q_ → ¬ own a_22 q_ := hm_47.apart (fun q_ h1 h2 => pr_30 q_ h2 h1) ho_26.own_lt
  have pr_62 : ∀ q_, tabS b al_43 q_ → ¬ own a_24 q_ := hm_47.apart (fun q_ h1 h2 => pr_31 q_ h2 h1) ho_27.own_lt
  have pg_63 : ∀ q_, tabS b al_43 q_ → q_ < w.heap.size → (tabS b al) q_ := hm_47.inS pg_42 K0.size
  replace ho_9 := ho_9.keepO K_48 (fun q_ h1 h2 => pr_41 q_ h2 h1)
  replace ho_26 := ho_26.keepO K_48 pr_30
  replace ho_27 := ho_27.keepO K_48 pr_31
  replace K0 := K0.trans K_48 (fun x hlt hx => pg_42 x hx hlt)
  clear hm_47
  clear hg_52
  refine RL.st rfl <| St1.append (xs := (waitedT ((oldT (passT T t)).1)).out) (ys := (beginT ((waitedT ((oldT (passT T t)).1)).T)).2) Try.underlying34 ty61 rfl rfl rfl ho_26 ho_51.sl (by first | omega | (simp only [lr]; omega)) (by decide) ?_
  intro a_64 c_65 w_66 ho_67 K_68 hm_69 hrm_70
  have pr_71 : ∀ q_, own a_64 q_ → ¬ own a_6 q_ := hm_69.apart pr_34 ho_9.own_lt
  have pr_72 : ∀ q_, own a_64 q_ → ¬ own a_24 q_ := hm_69.apart pr_32 ho_27.own_lt
  have pr_73 : ∀ q_, own a_64 q_ → ¬ tabS b al_43 q_ := hm_69.apart (fun q_ h1 h2 => pr_61 q_ h2 h1) hT_46.own_lt
  have pr_74 : ∀ q_, own a_64 q_ → ¬ own a_49 q_ := hm_69.apart (fun q_ h1 h2 => pr_56 q_ h2 h1) ho_51.own_lt
  have pg_75 : ∀ q_, own a_64 q_ → q_ < w.heap.size → (tabS b al) q_ := hm_69.inS pg_35 K0.size
  have pw_76 : ∀ q_, own a_64 q_ → w.heap.size ≤ q_ := hm_69.ge pw_36 K0.size
  replace ho_9 := ho_9.keepO K_68 (fun q_ h1 h2 => pr_34 q_ h2 h1)
  replace ho_27 := ho_27.keepO K_68 (fun q_ h1 h2 => pr_32 q_ h2 h1)
  replace hT_46 := hT_46.keepO K_68 pr_61
  replace ho_51 := ho_51.keepO K_68 pr_56
  replace K0 := K0.trans K_68 (fun x hlt hx => pg_35 x hx hlt)
  clear hm_69
  clear hrm_70
  refine RL.val (x_moveSl rfl) ?_
  refine RL.val (x_moveSl rfl) ?_
  refine RL.st rfl <| St1.append (xs := (oldT (passT T t)).2) (ys := (waitedT ((oldT (passT T t)).1)).told) Try.underlying32 ty23 rfl rfl rfl ho_9 ho_27.sl (by first | omega | (simp only [lr]; omega)) (by decide) ?_
  intro a_77 c_78 w_79 ho_80 K_81 hm_82 hrm_83
  have pr_84 : ∀ q_, own a_77 q_ → ¬ own a_24 q_ := hm_82.apart (fun q_ h1 h2 => pr_38 q_ h2 h1) ho_27.own_lt
  have pr_85 : ∀ q_, own a_77 q_ → ¬ tabS b al_43 q_ := hm_82.apart (fun q_ h1 h2 => pr_60 q_ h2 h1) hT_46.own_lt
  have pr_86 : ∀ q_, own a_77 q_ → ¬ own a_49 q_ := hm_82.apart (fun q_ h1 h2 => pr_54 q_ h2 h1) ho_51.own_lt
  have pr_87 : ∀ q_, own a_77 q_ → ¬ own a_64 q_ := hm_82.apart (fun q_ h1 h2 => pr_71 q_ h2 h1) ho_67.own_lt
  have pg_88 : ∀ q_, own a_77 q_ → q_ < w.heap.size → (tabS b al) q_ := hm_82.inS pg_14 K0.size
  have pw_89 : ∀ q_, own a_77 q_ → w.heap.size ≤ q_ := hm_82.ge pw_15 K0.size
  replace ho_27 := ho_27.keepO K_81 pr_38
  replace hT_46 := hT_46.keepO K_81 pr_60
  replace ho_51 := ho_51.keepO K_81 pr_54
  replace ho_67 := ho_67.keepO K_81 pr_71
  replace K0 := K0.trans K_81 (fun x hlt hx => pg_14 x hx hlt)
  clear hm_82
  clear hrm_83
  refine RL.val (x_assignSl rfl) ?_
  refine RL.val (x_assignSl rfl) ?_
  refine RL.nil ?_
  refine Run.ret2 (v := .slice (a_64) ((((waitedT ((oldT (passT T t)).1)).out) ++ (beginT ((waitedT ((oldT (passT T t)).1)).T)).2).length) (c_65)) (x := .slice (a_77) ((((oldT (passT T t)).2) ++ (waitedT ((oldT (passT T t)).1)).told).length) (c_78)) Try.func16 rfl rfl rfl ?_
  exact ⟨_, rfl, al_43, cl_44, a_64, c_65, a_77, c_78, rfl, hT_46, ho_67, ho_80, pw_76, pw_89, pr_73, pr_85, (fun q_ h1 h2 => pr_87 q_ h2 h1), tabMoved' (fun x hx hlt => pg_63 x (.inr hx) hlt), K0⟩

set_option maxRecDepth 100000 in
set_option maxHeartbeats 4000000 in
theorem pinged_ (b : Nat) (al : Option Addr) (cl : Nat) (T : Tab) (m : MsgC) (w : World) (hb : Blk w b (tabCells T al cl) 71) (hl8 : T.l.length = 8) :
    Calls Try.prog 46 #[.pointer (some ⟨b, 0, none⟩), .agg #[.int .i64 ((m).kind), .int .i64 ((m).frm), .int .i64 ((m).to), .int .i64 ((m).req), .string ((m).key), .slice ((m).entries.a) ((m).entries.len) ((m).entries.cap), .slice ((m).marks.a) ((m).marks.len) ((m).marks.cap), .slice ((m).cloud.a) ((m).cloud.len) ((m).cloud.cap), .int .i64 ((m).owner), .int .i64 ((m).part), .int .i64 ((m).n), .int .i64 ((m).rparts), .int .i64 ((m).rcopies), .int .i64 ((m).rspots), .slice ((m).members.a) ((m).members.len) ((m).members.cap), .slice ((m).peers.a) ((m).peers.len) ((m).peers.cap), .slice ((m).sums.a) ((m).sums.len) ((m).sums.cap)]] w (Ret (fun v w' => ∃ a' c', v = .slice a' (pingedT T m).length c' ∧ OwnSl w' 61 a' c' (pingedT T m) ∧ (∀ b, own a' b → w.heap.size ≤ b) ∧ Ext w w')) := by
  replace hb : Blk w b (([.bool (true), .int .i64 (T.self), .int .i64 (T.now)] : List Value) ++ flat T.l ++ ([.slice (al) (T.pings.length) (cl), .int .i64 (T.req), .bool (T.begun), .int .i64 (T.last), .int .i64 (T.target)] : List Value)) 71 := hb
  refine calls_run (n := 57) Try.func46 rfl rfl rfl ?_
  refine Run.seq ?_
  refine Run.region ?_
  refine RL.st rfl <| St1.box (v := .agg #[.int .i64 ((m).kind), .int .i64 ((m).frm), .int .i64 ((m).to), .int .i64 ((m).req), .string ((m).key), .slice ((m).entries.a) ((m).entries.len) ((m).entries.cap), .slice ((m).marks.a) ((m).marks.len) ((m).marks.cap), .slice ((m).cloud.a) ((m).cloud.len) ((m).cloud.cap), .int .i64 ((m).owner), .int .i64 ((m).part), .int .i64 ((m).n), .int .i64 ((m).rparts), .int .i64 ((m).rcopies), .int .i64 ((m).rspots), .slice ((m).members.a) ((m).members.len) ((m).members.cap), .slice ((m).peers.a) ((m).peers.len) ((m).peers.cap), .slice ((m).sums.a) ((m).sums.len) ((m).sums.cap)]) rfl ?_
  intro b_1 w_2 hl_5 hb_4 K_3
  replace hb_4 : Blk w_2 b_1 [.int .i64 ((m).kind), .int .i64 ((m).frm), .int .i64 ((m).to), .int .i64 ((m).req), .string ((m).key), .slice ((m).entries.a) ((m).entries.len) ((m).entries.cap), .slice ((m).marks.a) ((m).marks.len) ((m).marks.cap), .slice ((m).cloud.a) ((m).cloud.len) ((m).cloud.cap), .int .i64 ((m).owner), .int .i64 ((m).part), .int .i64 ((m).n), .int .i64 ((m).rparts), .int .i64 ((m).rcopies), .int .i64 ((m).rspots), .slice ((m).members.a) ((m).members.len) ((m).members.cap), .slice ((m).peers.a) ((m).peers.len) ((m).peers.cap), .slice ((m).sums.a) ((m).sums.len) ((m).sums.cap)] 61 := hb_4
  have ne_6 : b < b_1 := Nat.lt_of_lt_of_le hb.lt hl_5
  have : w.heap.size ≤ b_1 := hl_5
  clear hl_5
  replace hb := hb.ext K_3
  have K0 := (K_3 : Ext w _)
  refine RL.val (x_assignSl rfl) ?_
  refine RL.nil ?_
  refine Run.seq ?_
  refine Run.block ?_
  refine Run.seq ?_
  refine Run.draw' (m := 13) (by kernel_rfl) rfl ?_
  intro w_7 K_8
  replace hb := hb.ext K_8
  replace hb_4 := hb_4.ext K_8
  replace K0 := K0.ext K_8
  refine RA.take (v := .pointer (some ⟨b_1, 8, none⟩)) 0 rfl (by kernel_rfl) rfl (by rintro _ rfl; exact (x_fld (o' := 8) Try.underlying61 rfl ty3 rfl rfl rfl)) ?_
  refine RA.take (v := .int .i64 ((m).owner)) 1 rfl (by kernel_rfl) rfl (by rintro _ rfl; exact (x_ld (v := .int .i64 ((m).owner)) ty3 rfl rfl (hb_4.cl.field (i := 8) rfl))) ?_
  refine RA.take (v := .bool (((m).owner) == (-1))) 2 rfl (by kernel_rfl) rfl (by rintro _ rfl; exact (x_eqI rfl rfl)) ?_
  refine RA.take (v := .bool (((m).owner) == (-1))) 3 rfl (by kernel_rfl) rfl (by rintro _ rfl; exact (x_moveB rfl)) ?_
  refine RA.gtake (v := .pointer (some ⟨b_1, 8, none⟩)) 4 rfl (by kernel_rfl) rfl (wantedF rfl rfl rfl rfl) (fun hg => by rintro _ rfl; exact (x_fld (o' := 8) Try.underlying61 rfl ty3 rfl rfl rfl)) ?_
  refine RA.gtake (v := .int .i64 ((m).owner)) 5 rfl (by kernel_rfl) rfl (wantedF rfl rfl rfl rfl) (fun hg => by rintro _ rfl; exact (x_ld (v := .int .i64 ((m).owner)) ty3 (gvr hg) rfl (hb_4.cl.field (i := 8) rfl))) ?_
  refine RA.gtake (v := .pointer (some ⟨b, 0, none⟩)) 6 rfl (by kernel_rfl) rfl (wantedF rfl rfl rfl rfl) (fun hg => by rintro _ rfl; exact (x_moveP rfl)) ?_
  refine RA.gtake (v := .pointer (some ⟨b, 0, none⟩)) 7 rfl (by kernel_rfl) rfl (wantedF rfl rfl rfl rfl) (fun hg => by rintro _ rfl; exact (x_nilCheck (gvr hg))) ?_
  refine RA.gtake (v := .pointer (some ⟨b, 1, none⟩)) 8 rfl (by kernel_rfl) rfl (wantedF rfl rfl rfl rfl) (fun hg => by rintro _ rfl; exact (x_fld (o' := 1) Try.underlying71 rfl ty3 rfl (gvr hg) rfl)) ?_
  refine RA.gtake (v := .int .i64 (T.self)) 9 rfl (by kernel_rfl) rfl (wantedF rfl rfl rfl rfl) (fun hg => by rintro _ rfl; exact (x_ld (v := .int .i64 (T.self)) ty3 (gvr hg) rfl (hb.cl.field (i := 1) (seg_head rfl)))) ?_
  refine RA.gtake (v := .bool (((m).owner) == T.self)) 10 rfl (by kernel_rfl) rfl (wantedF rfl rfl rfl rfl) (fun hg => by rintro _ rfl; exact (x_eqI (gvr hg) (gvr hg))) ?_
  refine RA.take (v := .bool ((((m).owner) == (-1)) || (((m).owner) == T.self))) 11 rfl (by kernel_rfl) rfl (by rintro _ rfl; exact (x_or rfl rfl rfl)) ?_
  refine RA.take (v := .bool ((((m).owner) == (-1)) || (((m).owner) == T.self))) 12 rfl (by kernel_rfl) rfl (by rintro _ rfl; exact (x_assignB rfl)) ?_
  refine RA.done (by kernel_rfl) ?_
  refine Run.cond rfl (fun hc6 => ?_) (fun hc6 => ?_)
  · try simp only [br] at hc6
    refine Run.seq ?_
    refine Run.region ?_
    refine RL.val (x_fld (o' := 10) Try.underlying61 rfl ty3 rfl rfl rfl) ?_
    refine RL.val (x_ld (v := .int .i64 ((m).n)) ty3 rfl rfl (hb_4.cl.field (i := 10) rfl)) ?_
    refine RL.val (x_assignI rfl) ?_
    refine RL.nil ?_
    refine Run.seq ?_
    refine Run.seq ?_
    refine Run.region ?_
    refine RL.val (x_moveI rfl) ?_
    refine RL.val (x_ltI rfl rfl) ?_
    refine RL.val (x_moveB rfl) ?_
    refine RL.gval (wantedF rfl rfl rfl rfl) (fun hg => (x_moveI rfl)) ?_
    refine RL.gval (wantedF rfl rfl rfl rfl) (fun hg => (x_geI (gvr hg) rfl)) ?_
    refine RL.val (x_or rfl rfl rfl) ?_
    refine RL.nil ?_
    refine Run.cond rfl (fun hc26 => ?_) (fun hc26 => ?_)
    · try simp only [br] at hc26
      refine Run.region ?_
      refine RL.val (x_assignI rfl) ?_
      refine RL.nil ?_
      refine Run.seq ?_
      refine Run.drawT [] (m := 13) (by kernel_rfl) rfl ?_
      intro w_9 K_10
      replace hb := hb.ext K_10
      replace hb_4 := hb_4.ext K_10
      replace K0 := K0.ext K_10
      refine ⟨fun w' => Blk w' b (([.bool (true), .int .i64 (T.self), .int .i64 (T.now)] : List Value) ++ flat T.l ++ ([.slice (al) (T.pings.length) (cl), .int .i64 (T.req), .bool (T.begun), .int .i64 (T.last), .int .i64 (T.target)] : List Value)) 71 ∧ Blk w' b_1 [.int .i64 ((m).kind), .int .i64 ((m).frm), .int .i64 ((m).to), .int .i64 ((m).req), .string ((m).key), .slice ((m).entries.a) ((m).entries.len) ((m).entries.cap), .slice ((m).marks.a) ((m).marks.len) ((m).marks.cap), .slice ((m).cloud.a) ((m).cloud.len) ((m).cloud.cap), .int .i64 ((m).owner), .int .i64 ((m).part), .int .i64 ((m).n), .int .i64 ((m).rparts), .int .i64 ((m).rcopies), .int .i64 ((m).rspots), .slice ((m).members.a) ((m).members.len) ((m).members.cap), .slice ((m).peers.a) ((m).peers.len) ((m).peers.cap), .slice ((m).sums.a) ((m).sums.len) ((m).sums.cap)] 61 ∧ True, ?_⟩
      refine RT.takeP (v := .pointer (some ⟨b, 0, none⟩)) 0 rfl (by kernel_rfl) (.inr ⟨hb, hb_4, trivial⟩) (fun _ => (x_moveP rfl)) ?_
      refine RT.takeP (v := .pointer (some ⟨b_1, 1, none⟩)) 1 rfl (by kernel_rfl) (.inr ⟨hb, hb_4, trivial⟩) (fun _ => (x_fld (o' := 1) Try.underlying61 rfl ty3 rfl rfl rfl)) ?_
      refine RT.take (v := .int .i64 ((m).frm)) 2 rfl (by kernel_rfl) ⟨hb, hb_4, trivial⟩ (by rintro _ ⟨hb, hb_4, -⟩; exact (x_ld (v := .int .i64 ((m).frm)) ty3 rfl rfl (hb_4.cl.field (i := 1) rfl))) ?_
      refine RT.takeP (v := .pointer (some ⟨b_1, 3, none⟩)) 3 rfl (by kernel_rfl) (.inr ⟨hb, hb_4, trivial⟩) (fun _ => (x_fld (o' := 3) Try.underlying61 rfl ty3 rfl rfl rfl)) ?_
      refine RT.take (v := .int .i64 ((m).req)) 4 rfl (by kernel_rfl) ⟨hb, hb_4, trivial⟩ (by rintro _ ⟨hb, hb_4, -⟩; exact (x_ld (v := .int .i64 ((m).req)) ty3 rfl rfl (hb_4.cl.field (i := 3) rfl))) ?_
      refine RT.takeP (v := .pointer (some ⟨b, 0, none⟩)) 5 rfl (by kernel_rfl) (.inr ⟨hb, hb_4, trivial⟩) (fun _ => (x_moveP rfl)) ?_
      refine RT.takeP (v := .pointer (some ⟨b, 0, none⟩)) 6 rfl (by kernel_rfl) (.inr ⟨hb, hb_4, trivial⟩) (fun _ => (x_nilCheck rfl)) ?_
      refine RT.takeP (v := .pointer (some ⟨b, 1, none⟩)) 7 rfl (by kernel_rfl) (.inr ⟨hb, hb_4, trivial⟩) (fun _ => (x_fld (o' := 1) Try.underlying71 rfl ty3 rfl rfl rfl)) ?_
      refine RT.take (v := .int .i64 (T.self)) 8 rfl (by kernel_rfl) ⟨hb, hb_4, trivial⟩ (by rintro _ ⟨hb, hb_4, -⟩; exact (x_ld (v := .int .i64 (T.self)) ty3 rfl rfl (hb.cl.field (i := 1) (seg_head rfl)))) ?_
      refine RT.takeP (v := .int .i64 (-1)) 9 rfl (by kernel_rfl) (.inr ⟨hb, hb_4, trivial⟩) (fun _ => (x_moveI rfl)) ?_
      refine RT.st 10 rfl (by kernel_rfl) rfl <| St1.call (vals := [.pointer (some ⟨b, 0, none⟩), .int .i64 (7), .int .i64 ((m).frm), .int .i64 ((m).req), .int .i64 (T.self), .int .i64 (-1)]) en63 rfl (send_ _ _ _ T 7 ((m).frm) ((m).req) T.self (-1) _ hb hl8) ?_
      rintro _ w_11 ⟨rfl, K_12⟩
      replace hb := hb.ext K_12
      replace hb_4 := hb_4.ext K_12
      replace K0 := K0.ext K_12
      refine ⟨.inr ⟨hb, hb_4, trivial⟩, ?_⟩
      refine RT.st 11 rfl (by kernel_rfl) rfl <| St1.buildSlice ([mkMsg 7 T.self ((m).frm) ((m).req) T.self (-1)] : List MsgC) Try.underlying34 ty61 rfl rfl (by first | decide | (simp [Enc.size])) ?_
      intro b_13 w_14 hl_17 ho_16 K_15
      have pr_18 : ¬ own (some ⟨b_13, 0, none⟩) b := notNew (ge_new hl_17) hb.lt
      have pr_19 : ¬ own (some ⟨b_13, 0, none⟩) b_1 := notNew (ge_new hl_17) hb_4.lt
      have pg_20 : ∀ q_, own (some ⟨b_13, 0, none⟩) q_ → w.heap.size ≤ q_ := fun q_ h => Nat.le_trans K0.size ((ge_new hl_17) q_ h)
      clear hl_17
      replace hb := hb.ext K_15
      replace hb_4 := hb_4.ext K_15
      replace K0 := K0.ext K_15
      refine ⟨.inr ⟨hb, hb_4, trivial⟩, ?_⟩
      refine RT.takeP (v := .slice (some ⟨b_13, 0, none⟩) (([mkMsg 7 T.self ((m).frm) ((m).req) T.self (-1)] : List MsgC).length) (([mkMsg 7 T.self ((m).frm) ((m).req) T.self (-1)] : List MsgC).length)) 12 rfl (by kernel_rfl) (.inr ⟨hb, hb_4, trivial⟩) (fun _ => (x_assignSl rfl)) ?_
      refine RT.done (by kernel_rfl) ?_
      refine Run.ret1 (v := .slice (some ⟨b_13, 0, none⟩) (([mkMsg 7 T.self ((m).frm) ((m).req) T.self (-1)] : List MsgC).length) (([mkMsg 7 T.self ((m).frm) ((m).req) T.self (-1)] : List MsgC).length)) Try.func46 rfl rfl ?_
      have e : pingedT T m = ([mkMsg 7 T.self ((m).frm) ((m).req) T.self (-1)] : List MsgC) := by rw [pingedT, if_pos hc6, clampN, if_pos hc26]
      rw [e]
      exact ⟨_, rfl, some ⟨b_13, 0, none⟩, ([mkMsg 7 T.self ((m).frm) ((m).req) T.self (-1)] : List MsgC).length, rfl, ho_16, pg_20, K0⟩
    · try simp only [br] at hc26
      refine Run.skip ?_
      refine Run.seq ?_
      refine Run.drawT [] (m := 13) (by kernel_rfl) rfl ?_
      intro w_21 K_22
      replace hb := hb.ext K_22
      replace hb_4 := hb_4.ext K_22
      replace K0 := K0.ext K_22
      refine ⟨fun w' => Blk w' b (([.bool (true), .int .i64 (T.self), .int .i64 (T.now)] : List Value) ++ flat T.l ++ ([.slice (al) (T.pings.length) (cl), .int .i64 (T.req), .bool (T.begun), .int .i64 (T.last), .int .i64 (T.target)] : List Value)) 71 ∧ Blk w' b_1 [.int .i64 ((m).kind), .int .i64 ((m).frm), .int .i64 ((m).to), .int .i64 ((m).req), .string ((m).key), .slice ((m).entries.a) ((m).entries.len) ((m).entries.cap), .slice ((m).marks.a) ((m).marks.len) ((m).marks.cap), .slice ((m).cloud.a) ((m).cloud.len) ((m).cloud.cap), .int .i64 ((m).owner), .int .i64 ((m).part), .int .i64 ((m).n), .int .i64 ((m).rparts), .int .i64 ((m).rcopies), .int .i64 ((m).rspots), .slice ((m).members.a) ((m).members.len) ((m).members.cap), .slice ((m).peers.a) ((m).peers.len) ((m).peers.cap), .slice ((m).sums.a) ((m).sums.len) ((m).sums.cap)] 61 ∧ True, ?_⟩
      refine RT.takeP (v := .pointer (some ⟨b, 0, none⟩)) 0 rfl (by kernel_rfl) (.inr ⟨hb, hb_4, trivial⟩) (fun _ => (x_moveP rfl)) ?_
      refine RT.takeP (v := .pointer (some ⟨b_1, 1, none⟩)) 1 rfl (by kernel_rfl) (.inr ⟨hb, hb_4, trivial⟩) (fun _ => (x_fld (o' := 1) Try.underlying61 rfl ty3 rfl rfl rfl)) ?_
      refine RT.take (v := .int .i64 ((m).frm)) 2 rfl (by kernel_rfl) ⟨hb, hb_4, trivial⟩ (by rintro _ ⟨hb, hb_4, -⟩; exact (x_ld (v := .int .i64 ((m).frm)) ty3 rfl rfl (hb_4.cl.field (i := 1) rfl))) ?_
      refine RT.takeP (v := .pointer (some ⟨b_1, 3, none⟩)) 3 rfl (by kernel_rfl) (.inr ⟨hb, hb_4, trivial⟩) (fun _ => (x_fld (o' := 3) Try.underlying61 rfl ty3 rfl rfl rfl)) ?_
      refine RT.take (v := .int .i64 ((m).req)) 4 rfl (by kernel_rfl) ⟨hb, hb_4, trivial⟩ (by rintro _ ⟨hb, hb_4, -⟩; exact (x_ld (v := .int .i64 ((m).req)) ty3 rfl rfl (hb_4.cl.field (i := 3) rfl))) ?_
      refine RT.takeP (v := .pointer (some ⟨b, 0, none⟩)) 5 rfl (by kernel_rfl) (.inr ⟨hb, hb_4, trivial⟩) (fun _ => (x_moveP rfl)) ?_
      refine RT.takeP (v := .pointer (some ⟨b, 0, none⟩)) 6 rfl (by kernel_rfl) (.inr ⟨hb, hb_4, trivial⟩) (fun _ => (x_nilCheck rfl)) ?_
      refine RT.takeP (v := .pointer (some ⟨b, 1, none⟩)) 7 rfl (by kernel_rfl) (.inr ⟨hb, hb_4, trivial⟩) (fun _ => (x_fld (o' := 1) Try.underlying71 rfl ty3 rfl rfl rfl)) ?_
      refine RT.take (v := .int .i64 (T.self)) 8 rfl (by kernel_rfl) ⟨hb, hb_4, trivial⟩ (by rintro _ ⟨hb, hb_4, -⟩; exact (x_ld (v := .int .i64 (T.self)) ty3 rfl rfl (hb.cl.field (i := 1) (seg_head rfl)))) ?_
      refine RT.takeP (v := .int .i64 ((m).n)) 9 rfl (by kernel_rfl) (.inr ⟨hb, hb_4, trivial⟩) (fun _ => (x_moveI rfl)) ?_
      refine RT.st 10 rfl (by kernel_rfl) rfl <| St1.call (vals := [.pointer (some ⟨b, 0, none⟩), .int .i64 (7), .int .i64 ((m).frm), .int .i64 ((m).req), .int .i64 (T.self), .int .i64 ((m).n)]) en63 rfl (send_ _ _ _ T 7 ((m).frm) ((m).req) T.self ((m).n) _ hb hl8) ?_
      rintro _ w_23 ⟨rfl, K_24⟩
      replace hb := hb.ext K_24
      replace hb_4 := hb_4.ext K_24
      replace K0 := K0.ext K_24
      refine ⟨.inr ⟨hb, hb_4, trivial⟩, ?_⟩
      refine RT.st 11 rfl (by kernel_rfl) rfl <| St1.buildSlice ([mkMsg 7 T.self ((m).frm) ((m).req) T.self ((m).n)] : List MsgC) Try.underlying34 ty61 rfl rfl (by first | decide | (simp [Enc.size])) ?_
      intro b_25 w_26 hl_29 ho_28 K_27
      have pr_30 : ¬ own (some ⟨b_25, 0, none⟩) b := notNew (ge_new hl_29) hb.lt
      have pr_31 : ¬ own (some ⟨b_25, 0, none⟩) b_1 := notNew (ge_new hl_29) hb_4.lt
      have pg_32 : ∀ q_, own (some ⟨b_25, 0, none⟩) q_ → w.heap.size ≤ q_ := fun q_ h => Nat.le_trans K0.size ((ge_new hl_29) q_ h)
      clear hl_29
      replace hb := hb.ext K_27
      replace hb_4 := hb_4.ext K_27
      replace K0 := K0.ext K_27
      refine ⟨.inr ⟨hb, hb_4, trivial⟩, ?_⟩
      refine RT.takeP (v := .slice (some ⟨b_25, 0, none⟩) (([mkMsg 7 T.self ((m).frm) ((m).req) T.self ((m).n)] : List MsgC).length) (([mkMsg 7 T.self ((m).frm) ((m).req) T.self ((m).n)] : List MsgC).length)) 12 rfl (by kernel_rfl) (.inr ⟨hb, hb_4, trivial⟩) (fun _ => (x_assignSl rfl)) ?_
      refine RT.done (by kernel_rfl) ?_
      refine Run.ret1 (v := .slice (some ⟨b_25, 0, none⟩) (([mkMsg 7 T.self ((m).frm) ((m).req) T.self ((m).n)] : List MsgC).length) (([mkMsg 7 T.self ((m).frm) ((m).req) T.self ((m).n)] : List MsgC).length)) Try.func46 rfl rfl ?_
      have e : pingedT T m = ([mkMsg 7 T.self ((m).frm) ((m).req) T.self ((m).n)] : List MsgC) := by rw [pingedT, if_pos hc6, clampN, if_neg (by omega)]
      rw [e]
      exact ⟨_, rfl, some ⟨b_25, 0, none⟩, ([mkMsg 7 T.self ((m).frm) ((m).req) T.self ((m).n)] : List MsgC).length, rfl, ho_28, pg_32, K0⟩
  · try simp only [br] at hc6
    refine Run.seq ?_
    refine Run.region ?_
    refine RL.val (x_fld (o' := 8) Try.underlying61 rfl ty3 rfl rfl rfl) ?_
    refine RL.val (x_ld (v := .int .i64 ((m).owner)) ty3 rfl rfl (hb_4.cl.field (i := 8) rfl)) ?_
    refine RL.val (x_geI rfl rfl) ?_
    refine RL.val (x_moveB rfl) ?_
    refine RL.gval (wantedT rfl rfl rfl rfl) (fun hg => (x_fld (o' := 8) Try.underlying61 rfl ty3 rfl rfl rfl)) ?_
    refine RL.gval (wantedT rfl rfl rfl rfl) (fun hg => (x_ld (v := .int .i64 ((m).owner)) ty3 (gvr hg) rfl (hb_4.cl.field (i := 8) rfl))) ?_
    refine RL.gval (wantedT rfl rfl rfl rfl) (fun hg => (x_ltI (gvr hg) rfl)) ?_
    refine RL.val (x_and rfl rfl rfl) ?_
    refine RL.val (x_assignB rfl) ?_
    refine RL.nil ?_
    refine Run.cond rfl (fun hc39 => ?_) (fun hc39 => ?_)
    · try simp only [br] at hc39
      refine Run.seq ?_
      refine Run.region ?_
      refine RL.val (x_moveP rfl) ?_
      refine RL.val (x_fld (o' := 8) Try.underlying61 rfl ty3 rfl rfl rfl) ?_
      refine RL.val (x_ld (v := .int .i64 ((m).owner)) ty3 rfl rfl (hb_4.cl.field (i := 8) rfl)) ?_
      refine RL.val (x_fld (o' := 3) Try.underlying61 rfl ty3 rfl rfl rfl) ?_
      refine RL.val (x_ld (v := .int .i64 ((m).req)) ty3 rfl rfl (hb_4.cl.field (i := 3) rfl)) ?_
      refine RL.val (x_fld (o' := 1) Try.underlying61 rfl ty3 rfl rfl rfl) ?_
      refine RL.val (x_ld (v := .int .i64 ((m).frm)) ty3 rfl rfl (hb_4.cl.field (i := 1) rfl)) ?_
      refine RL.st rfl <| St1.call (vals := [.pointer (some ⟨b, 0, none⟩), .int .i64 (6), .int .i64 ((m).owner), .int .i64 ((m).req), .int .i64 (-1), .int .i64 ((m).frm)]) en63 rfl (send_ _ _ _ T 6 ((m).owner) ((m).req) (-1) ((m).frm) _ hb hl8) ?_
      rintro _ w_33 ⟨rfl, K_34⟩
      replace hb := hb.ext K_34
      replace hb_4 := hb_4.ext K_34
      replace K0 := K0.ext K_34
      refine RL.st rfl <| St1.buildSlice ([mkMsg 6 T.self ((m).owner) ((m).req) (-1) ((m).frm)] : List MsgC) Try.underlying34 ty61 rfl rfl (by first | decide | (simp [Enc.size])) ?_
      intro b_35 w_36 hl_39 ho_38 K_37
      have pr_40 : ¬ own (some ⟨b_35, 0, none⟩) b := notNew (ge_new hl_39) hb.lt
      have pr_41 : ¬ own (some ⟨b_35, 0, none⟩) b_1 := notNew (ge_new hl_39) hb_4.lt
      have pg_42 : ∀ q_, own (some ⟨b_35, 0, none⟩) q_ → w.heap.size ≤ q_ := fun q_ h => Nat.le_trans K0.size ((ge_new hl_39) q_ h)
      clear hl_39
      replace hb := hb.ext K_37
      replace hb_4 := hb_4.ext K_37
      replace K0 := K0.ext K_37
      refine RL.val (x_assignSl rfl) ?_
      refine RL.nil ?_
      refine Run.ret1 (v := .slice (some ⟨b_35, 0, none⟩) (([mkMsg 6 T.self ((m).owner) ((m).req) (-1) ((m).frm)] : List MsgC).length) (([mkMsg 6 T.self ((m).owner) ((m).req) (-1) ((m).frm)] : List MsgC).length)) Try.func46 rfl rfl ?_
      have e : pingedT T m = ([mkMsg 6 T.self ((m).owner) ((m).req) (-1) ((m).frm)] : List MsgC) := by rw [pingedT, if_neg (by omega), if_pos hc39]
      rw [e]
      exact ⟨_, rfl, some ⟨b_35, 0, none⟩, ([mkMsg 6 T.self ((m).owner) ((m).req) (-1) ((m).frm)] : List MsgC).length, rfl, ho_38, pg_42, K0⟩
    · try simp only [br] at hc39
      refine Run.skip ?_
      refine Run.inBlock ?_
      refine Run.seq ?_
      refine Run.region ?_
      refine RL.val (x_assignSl rfl) ?_
      refine RL.nil ?_
      refine Run.ret1 (v := .slice (none) (0) (0)) Try.func46 rfl rfl ?_
      have ho_43 := OwnSl.nil (α := MsgC) w_7 61
      have e : pingedT T m = ([] : List MsgC) := by rw [pingedT, if_neg (by omega), if_neg (by omega)]
      rw [e]
      exact ⟨_, rfl, none, 0, rfl, ho_43, (fun q_ h1 => absurd h1 (own_none q_)), K0⟩

set_option maxRecDepth 100000 in
set_option maxHeartbeats 4000000 in
theorem ponged1 (p : Ping) (bm : Nat) (m : MsgC) (w : World) (hbm : Blk w bm [.int .i64 ((m).kind), .int .i64 ((m).frm), .int .i64 ((m).to), .int .i64 ((m).req), .string ((m).key), .slice ((m).entries.a) ((m).entries.len) ((m).entries.cap), .slice ((m).marks.a) ((m).marks.len) ((m).marks.cap), .slice ((m).cloud.a) ((m).cloud.len) ((m).cloud.cap), .int .i64 ((m).owner), .int .i64 ((m).part), .int .i64 ((m).n), .int .i64 ((m).rparts), .int .i64 ((m).rcopies), .int .i64 ((m).rspots), .slice ((m).members.a) ((m).members.len) ((m).members.cap), .slice ((m).peers.a) ((m).peers.len) ((m).peers.cap), .slice ((m).sums.a) ((m).sums.len) ((m).sums.cap)] 61) :
    Calls Try.prog 66 #[.agg #[.int .i64 ((p).target), .int .i64 ((p).req), .int .i64 ((p).since), .bool ((p).others)], .pointer (some ⟨bm, 0, none⟩)] w (Ret (fun v w' => v = .bool ((p.target == m.owner) && (p.req == m.req)) ∧ Ext w w')) := by
  refine calls_run (n := 16) Try.func66 rfl rfl rfl ?_
  refine Run.seq ?_
  refine Run.region ?_
  refine RL.st rfl <| St1.box (v := .agg #[.int .i64 ((p).target), .int .i64 ((p).req), .int .i64 ((p).since), .bool ((p).others)]) rfl ?_
  intro b_1 w_2 hl_5 hb_4 K_3
  replace hb_4 : Blk w_2 b_1 [.int .i64 ((p).target), .int .i64 ((p).req), .int .i64 ((p).since), .bool ((p).others)] 107 := hb_4
  have ne_6 : bm < b_1 := Nat.lt_of_lt_of_le hbm.lt hl_5
  have : w.heap.size ≤ b_1 := hl_5
  clear hl_5
  replace hbm := hbm.ext K_3
  have K0 := (K_3 : Ext w _)
  refine RL.val (x_assignB rfl) ?_
  refine RL.nil ?_
  refine Run.seq ?_
  refine Run.region ?_
  refine RL.val (x_fld (o' := 0) Try.underlying107 rfl ty3 rfl rfl rfl) ?_
  refine RL.val (x_ld (v := .int .i64 ((p).target)) ty3 rfl rfl (hb_4.cl.field (i := 0) rfl)) ?_
  refine RL.val (x_fld (o' := 8) Try.underlying61 rfl ty3 rfl rfl rfl) ?_
  refine RL.val (x_ld (v := .int .i64 ((m).owner)) ty3 rfl rfl (hbm.cl.field (i := 8) rfl)) ?_
  refine RL.val (x_eqI rfl rfl) ?_
  refine RL.val (x_moveB rfl) ?_
  refine RL.gval (wantedT rfl rfl rfl rfl) (fun hg => (x_fld (o' := 1) Try.underlying107 rfl ty3 rfl rfl rfl)) ?_
  refine RL.gval (wantedT rfl rfl rfl rfl) (fun hg => (x_ld (v := .int .i64 ((p).req)) ty3 (gvr hg) rfl (hb_4.cl.field (i := 1) rfl))) ?_
  refine RL.gval (wantedT rfl rfl rfl rfl) (fun hg => (x_fld (o' := 3) Try.underlying61 rfl ty3 rfl rfl rfl)) ?_
  refine RL.gval (wantedT rfl rfl rfl rfl) (fun hg => (x_ld (v := .int .i64 ((m).req)) ty3 (gvr hg) rfl (hbm.cl.field (i := 3) rfl))) ?_
  refine RL.gval (wantedT rfl rfl rfl rfl) (fun hg => (x_eqI (gvr hg) (gvr hg))) ?_
  refine RL.val (x_and rfl rfl rfl) ?_
  refine RL.val (x_assignB rfl) ?_
  refine RL.nil ?_
  refine Run.ret1 (v := .bool ((((p).target) == ((m).owner)) && (((p).req) == ((m).req)))) Try.func66 rfl rfl ?_
  exact ⟨_, rfl, rfl, K0⟩

set_option maxRecDepth 100000 in
set_option maxHeartbeats 4000000 in
theorem ponged_ (b : Nat) (al : Option Addr) (cl : Nat) (T : Tab) (m : MsgC) (w : World) (hT : TabAt w b al cl T) (hpl : T.pings.length ≤ 1048576) :
    Calls Try.prog 47 #[.pointer (some ⟨b, 0, none⟩), .agg #[.int .i64 ((m).kind), .int .i64 ((m).frm), .int .i64 ((m).to), .int .i64 ((m).req), .string ((m).key), .slice ((m).entries.a) ((m).entries.len) ((m).entries.cap), .slice ((m).marks.a) ((m).marks.len) ((m).marks.cap), .slice ((m).cloud.a) ((m).cloud.len) ((m).cloud.cap), .int .i64 ((m).owner), .int .i64 ((m).part), .int .i64 ((m).n), .int .i64 ((m).rparts), .int .i64 ((m).rcopies), .int .i64 ((m).rspots), .slice ((m).members.a) ((m).members.len) ((m).members.cap), .slice ((m).peers.a) ((m).peers.len) ((m).peers.cap), .slice ((m).sums.a) ((m).sums.len) ((m).sums.cap)]] w (Ret (fun v w' => ∃ al' cl' a0 c0, v = .slice a0 (pongedT T m).2.length c0 ∧ TabAt w' b al' cl' ((pongedT T m).1) ∧ OwnSl w' 61 a0 c0 ((pongedT T m).2) ∧ (∀ x, own a0 x → w.heap.size ≤ x) ∧ (∀ x, own a0 x → ¬ tabS b al' x) ∧ MovedS w (tabS b al) (tabS b al') ∧ Keeps (tabS b al) w w')) := by
  obtain ⟨hb, ho, hap, ok⟩ := hT
  have hl8 := ok.len
  replace hb : Blk w b (([.bool (true), .int .i64 (T.self), .int .i64 (T.now)] : List Value) ++ flat T.l ++ ([.slice (al) (T.pings.length) (cl), .int .i64 (T.req), .bool (T.begun), .int .i64 (T.last), .int .i64 (T.target)] : List Value)) 71 := hb
  refine calls_run (n := 45) Try.func47 rfl rfl rfl ?_
  refine Run.seq ?_
  refine Run.region ?_
  refine RL.st rfl <| St1.box (v := .agg #[.int .i64 ((m).kind), .int .i64 ((m).frm), .int .i64 ((m).to), .int .i64 ((m).req), .string ((m).key), .slice ((m).entries.a) ((m).entries.len) ((m).entries.cap), .slice ((m).marks.a) ((m).marks.len) ((m).marks.cap), .slice ((m).cloud.a) ((m).cloud.len) ((m).cloud.cap), .int .i64 ((m).owner), .int .i64 ((m).part), .int .i64 ((m).n), .int .i64 ((m).rparts), .int .i64 ((m).rcopies), .int .i64 ((m).rspots), .slice ((m).members.a) ((m).members.len) ((m).members.cap), .slice ((m).peers.a) ((m).peers.len) ((m).peers.cap), .slice ((m).sums.a) ((m).sums.len) ((m).sums.cap)]) rfl ?_
  intro b_1 w_2 hl_5 hb_4 K_3
  replace hb_4 : Blk w_2 b_1 [.int .i64 ((m).kind), .int .i64 ((m).frm), .int .i64 ((m).to), .int .i64 ((m).req), .string ((m).key), .slice ((m).entries.a) ((m).entries.len) ((m).entries.cap), .slice ((m).marks.a) ((m).marks.len) ((m).marks.cap), .slice ((m).cloud.a) ((m).cloud.len) ((m).cloud.cap), .int .i64 ((m).owner), .int .i64 ((m).part), .int .i64 ((m).n), .int .i64 ((m).rparts), .int .i64 ((m).rcopies), .int .i64 ((m).rspots), .slice ((m).members.a) ((m).members.len) ((m).members.cap), .slice ((m).peers.a) ((m).peers.len) ((m).peers.cap), .slice ((m).sums.a) ((m).sums.len) ((m).sums.cap)] 61 := hb_4
  have ne_6 : b < b_1 := Nat.lt_of_lt_of_le hb.lt hl_5
  have pr_7 : ¬ own al b_1 := fun h => absurd (ho.own_lt _ h) (by omega)
  have : w.heap.size ≤ b_1 := hl_5
  clear hl_5
  replace hb := hb.ext K_3
  replace ho := ho.ext K_3
  have K0 := (K_3 : Ext w _).to (S := (tabS b al))
  refine RL.val (x_assignSl rfl) ?_
  refine RL.nil ?_
  refine Run.seq ?_
  refine Run.block ?_
  refine Run.seq ?_
  refine Run.draw' (m := 13) (by kernel_rfl) rfl ?_
  intro w_8 K_9
  replace hb := hb.ext K_9
  replace ho := ho.ext K_9
  replace hb_4 := hb_4.ext K_9
  replace K0 := K0.ext K_9
  refine RA.take (v := .pointer (some ⟨b_1, 10, none⟩)) 0 rfl (by kernel_rfl) rfl (by rintro _ rfl; exact (x_fld (o' := 10) Try.underlying61 rfl ty3 rfl rfl rfl)) ?_
  refine RA.take (v := .int .i64 ((m).n)) 1 rfl (by kernel_rfl) rfl (by rintro _ rfl; exact (x_ld (v := .int .i64 ((m).n)) ty3 rfl rfl (hb_4.cl.field (i := 10) rfl))) ?_
  refine RA.take (v := .bool (((m).n) == (-1))) 2 rfl (by kernel_rfl) rfl (by rintro _ rfl; exact (x_eqI rfl rfl)) ?_
  refine RA.take (v := .bool (((m).n) == (-1))) 3 rfl (by kernel_rfl) rfl (by rintro _ rfl; exact (x_moveB rfl)) ?_
  refine RA.gtake (v := .pointer (some ⟨b_1, 10, none⟩)) 4 rfl (by kernel_rfl) rfl (wantedF rfl rfl rfl rfl) (fun hg => by rintro _ rfl; exact (x_fld (o' := 10) Try.underlying61 rfl ty3 rfl rfl rfl)) ?_
  refine RA.gtake (v := .int .i64 ((m).n)) 5 rfl (by kernel_rfl) rfl (wantedF rfl rfl rfl rfl) (fun hg => by rintro _ rfl; exact (x_ld (v := .int .i64 ((m).n)) ty3 (gvr hg) rfl (hb_4.cl.field (i := 10) rfl))) ?_
  refine RA.gtake (v := .pointer (some ⟨b, 0, none⟩)) 6 rfl (by kernel_rfl) rfl (wantedF rfl rfl rfl rfl) (fun hg => by rintro _ rfl; exact (x_moveP rfl)) ?_
  refine RA.gtake (v := .pointer (some ⟨b, 0, none⟩)) 7 rfl (by kernel_rfl) rfl (wantedF rfl rfl rfl rfl) (fun hg => by rintro _ rfl; exact (x_nilCheck (gvr hg))) ?_
  refine RA.gtake (v := .pointer (some ⟨b, 1, none⟩)) 8 rfl (by kernel_rfl) rfl (wantedF rfl rfl rfl rfl) (fun hg => by rintro _ rfl; exact (x_fld (o' := 1) Try.underlying71 rfl ty3 rfl (gvr hg) rfl)) ?_
  refine RA.gtake (v := .int .i64 (T.self)) 9 rfl (by kernel_rfl) rfl (wantedF rfl rfl rfl rfl) (fun hg => by rintro _ rfl; exact (x_ld (v := .int .i64 (T.self)) ty3 (gvr hg) rfl (hb.cl.field (i := 1) (seg_head rfl)))) ?_
  refine RA.gtake (v := .bool (((m).n) == T.self)) 10 rfl (by kernel_rfl) rfl (wantedF rfl rfl rfl rfl) (fun hg => by rintro _ rfl; exact (x_eqI (gvr hg) (gvr hg))) ?_
  refine RA.take (v := .bool ((((m).n) == (-1)) || (((m).n) == T.self))) 11 rfl (by kernel_rfl) rfl (by rintro _ rfl; exact (x_or rfl rfl rfl)) ?_
  refine RA.take (v := .bool ((((m).n) == (-1)) || (((m).n) == T.self))) 12 rfl (by kernel_rfl) rfl (by rintro _ rfl; exact (x_assignB rfl)) ?_
  refine RA.done (by kernel_rfl) ?_
  refine Run.cond rfl (fun hc5 => ?_) (fun hc5 => ?_)
  · try simp only [br] at hc5
    refine Run.region ?_
    refine RL.val (x_moveP rfl) ?_
    refine RL.val (x_moveP rfl) ?_
    refine RL.val (x_nilCheck rfl) ?_
    refine RL.val (x_fld (o' := 35) Try.underlying71 rfl ty69 rfl rfl rfl) ?_
    refine RL.val (x_ld (v := .slice (al) (T.pings.length) (cl)) ty69 rfl rfl (hb.cl.field (i := 35) (seg_tail (j := 0) hl8 rfl rfl))) ?_
    refine RL.val (x_mkFunc (a := []) (c := [.pointer (some ⟨b_1, 0, none⟩)]) rfl rfl) ?_
    refine RL.st rfl <| St1.call (vals := [.slice (al) (T.pings.length) (cl), .func (.func 66) #[] #[.pointer (some ⟨b_1, 0, none⟩)]]) en65 rfl (deleteFunc_ping _ _ _ 66 _ (fun p => (p.target == m.owner) && (p.req == m.req)) en66 _ ho (by omega) (fun x _ w' K' => ponged1 x b_1 m w' (hb_4.keep K' pr_7))) ?_
    rintro _ w_10 ⟨rfl, ho_11, K_12⟩
    replace hb := hb.keep K_12 hap
    replace hb_4 := hb_4.keep K_12 pr_7
    replace K0 := K0.trans K_12 (fun x hlt hx => (fun x h _ => Or.inr h) x hx hlt)
    replace ho := ho_11
    clear ho_11
    refine RL.val (x_nilCheck rfl) ?_
    refine RL.val (x_fld (o' := 35) Try.underlying71 rfl ty69 rfl rfl rfl) ?_
    refine RL.st rfl <| St1.store (v := .slice (al) ((T.pings.filter (fun x => !(fun p => (p.target == m.owner) && (p.req == m.req)) x)).length) (cl)) ty69 rfl rfl rfl (by simp [Value.cells, Value.oneCell']) hb (by rw [seg_len, hl8]; show _ ≤ 3 + 8 * 4 + 5; omega) ?_
    intro w_13 hb_ K_14
    have hb' : Blk w_13 b (([.bool (true), .int .i64 (T.self), .int .i64 (T.now)] : List Value) ++ flat T.l ++ ([.slice (al) ((T.pings.filter (fun x => !(fun p => (p.target == m.owner) && (p.req == m.req)) x)).length) (cl), .int .i64 (T.req), .bool (T.begun), .int .i64 (T.last), .int .i64 (T.target)] : List Value)) 71 := (by have h_ := blk_st_tail (j := 0) hb_ hl8 rfl; exact h_)
    clear hb_
    replace ho := ho.keepO K_14 (fun q_ hq_ eq_ => hap (by simp only [one] at eq_; rw [← eq_]; exact hq_))
    replace hb_4 := hb_4.keep K_14 (by simp only [one]; omega)
    replace K0 := K0.trans K_14 (fun x _ hx => by simp only [one] at hx; subst hx; exact (Or.inl rfl))
    replace hb := hb'
    clear hb'
    refine RL.nil ?_
    refine Run.inBlock ?_
    refine Run.seq ?_
    refine Run.region ?_
    refine RL.val (x_assignSl rfl) ?_
    refine RL.nil ?_
    refine Run.ret1 (v := .slice (none) (0) (0)) Try.func47 rfl rfl ?_
    have ho_15 := OwnSl.nil (α := MsgC) w_13 61
    have e1 : (pongedT T m).1 = { T with pings := T.pings.filter (fun x => !(fun p => (p.target == m.owner) && (p.req == m.req)) x) } := by rw [pongedT, if_pos hc5]
    have e2 : (pongedT T m).2 = ([] : List MsgC) := by rw [pongedT, if_pos hc5]
    have hT_16 : TabAt w_13 b al cl ({ T with pings := T.pings.filter (fun x => !(fun p => (p.target == m.owner) && (p.req == m.req)) x) }) := ⟨hb, ho, hap, (by rw [← e1]; exact (ponged_ok ok).1)⟩
    have pt_17 : ¬ tabS b al b_1 := (fun h1 => h1.elim (fun e => absurd e (by omega)) (fun h => pr_7 h))
    have pt_18 : ∀ q_, tabS b al q_ → ¬ own none q_ := (fun q_ h1 h2 => h1.elim (fun e => (own_none b) (e ▸ h2)) (fun h => (fun q_ h1 h2 => (fun q_ h1 _ => own_none q_ h1) q_ h2 h1) q_ h h2))
    have pt_19 : ∀ q_, tabS b al q_ → q_ < w.heap.size → (tabS b al) q_ := (fun q_ h1 hlt => h1.elim (fun e => e ▸ (Or.inl rfl)) (fun h => (fun x h _ => Or.inr h) q_ h hlt))
    clear hb ho
    rw [e1, e2]
    exact ⟨_, rfl, al, cl, none, 0, rfl, hT_16, ho_15, (fun q_ h1 => absurd h1 (own_none q_)), (fun q_ h1 h2 => pt_18 q_ h2 h1), tabMoved' (fun x hx hlt => pt_19 x (.inr hx) hlt), K0⟩
  · try simp only [br] at hc5
    refine Run.seq ?_
    refine Run.region ?_
    refine RL.val (x_fld (o' := 10) Try.underlying61 rfl ty3 rfl rfl rfl) ?_
    refine RL.val (x_ld (v := .int .i64 ((m).n)) ty3 rfl rfl (hb_4.cl.field (i := 10) rfl)) ?_
    refine RL.val (x_geI rfl rfl) ?_
    refine RL.val (x_moveB rfl) ?_
    refine RL.gval (wantedT rfl rfl rfl rfl) (fun hg => (x_fld (o' := 10) Try.underlying61 rfl ty3 rfl rfl rfl)) ?_
    refine RL.gval (wantedT rfl rfl rfl rfl) (fun hg => (x_ld (v := .int .i64 ((m).n)) ty3 (gvr hg) rfl (hb_4.cl.field (i := 10) rfl))) ?_
    refine RL.gval (wantedT rfl rfl rfl rfl) (fun hg => (x_ltI (gvr hg) rfl)) ?_
    refine RL.val (x_and rfl rfl rfl) ?_
    refine RL.val (x_assignB rfl) ?_
    refine RL.nil ?_
    refine Run.cond rfl (fun hc27 => ?_) (fun hc27 => ?_)
    · try simp only [br] at hc27
      refine Run.seq ?_
      refine Run.region ?_
      refine RL.val (x_moveP rfl) ?_
      refine RL.val (x_fld (o' := 10) Try.underlying61 rfl ty3 rfl rfl rfl) ?_
      refine RL.val (x_ld (v := .int .i64 ((m).n)) ty3 rfl rfl (hb_4.cl.field (i := 10) rfl)) ?_
      refine RL.val (x_fld (o' := 3) Try.underlying61 rfl ty3 rfl rfl rfl) ?_
      refine RL.val (x_ld (v := .int .i64 ((m).req)) ty3 rfl rfl (hb_4.cl.field (i := 3) rfl)) ?_
      refine RL.val (x_fld (o' := 8) Try.underlying61 rfl ty3 rfl rfl rfl) ?_
      refine RL.val (x_ld (v := .int .i64 ((m).owner)) ty3 rfl rfl (hb_4.cl.field (i := 8) rfl)) ?_
      refine RL.st rfl <| St1.call (vals := [.pointer (some ⟨b, 0, none⟩), .int .i64 (7), .int .i64 ((m).n), .int .i64 ((m).req), .int .i64 ((m).owner), .int .i64 (-1)]) en63 rfl (send_ _ _ _ T 7 ((m).n) ((m).req) ((m).owner) (-1) _ hb hl8) ?_
      rintro _ w_20 ⟨rfl, K_21⟩
      replace hb := hb.ext K_21
      replace ho := ho.ext K_21
      replace hb_4 := hb_4.ext K_21
      replace K0 := K0.ext K_21
      refine RL.st rfl <| St1.buildSlice ([mkMsg 7 T.self ((m).n) ((m).req) ((m).owner) (-1)] : List MsgC) Try.underlying34 ty61 rfl rfl (by first | decide | (simp [Enc.size])) ?_
      intro b_22 w_23 hl_26 ho_25 K_24
      have pr_27 : ¬ own (some ⟨b_22, 0, none⟩) b := notNew (ge_new hl_26) hb.lt
      have pr_28 : ∀ q_, own (some ⟨b_22, 0, none⟩) q_ → ¬ own al q_ := apartNew (ge_new hl_26) ho.own_lt
      have pr_29 : ¬ own (some ⟨b_22, 0, none⟩) b_1 := notNew (ge_new hl_26) hb_4.lt
      have pg_30 : ∀ q_, own (some ⟨b_22, 0, none⟩) q_ → q_ < w.heap.size → (tabS b al) q_ := fun q_ h hlt => absurd (Nat.le_trans K0.size ((ge_new hl_26) q_ h)) (by omega)
      have pw_31 : ∀ q_, own (some ⟨b_22, 0, none⟩) q_ → w.heap.size ≤ q_ := fun q_ h => Nat.le_trans K0.size ((ge_new hl_26) q_ h)
      clear hl_26
      replace hb := hb.ext K_24
      replace ho := ho.ext K_24
      replace hb_4 := hb_4.ext K_24
      replace K0 := K0.ext K_24
      refine RL.val (x_assignSl rfl) ?_
      refine RL.nil ?_
      refine Run.ret1 (v := .slice (some ⟨b_22, 0, none⟩) (([mkMsg 7 T.self ((m).n) ((m).req) ((m).owner) (-1)] : List MsgC).length) (([mkMsg 7 T.self ((m).n) ((m).req) ((m).owner) (-1)] : List MsgC).length)) Try.func47 rfl rfl ?_
      have e1 : (pongedT T m).1 = T := by rw [pongedT, if_neg (by omega), if_pos hc27]
      have e2 : (pongedT T m).2 = ([mkMsg 7 T.self ((m).n) ((m).req) ((m).owner) (-1)] : List MsgC) := by rw [pongedT, if_neg (by omega), if_pos hc27]
      have hT_32 : TabAt w_23 b al cl T := ⟨hb, ho, hap, (by rw [← e1]; exact (ponged_ok ok).1)⟩
      have pt_33 : ¬ tabS b al b_1 := (fun h1 => h1.elim (fun e => absurd e (by omega)) (fun h => pr_7 h))
      have pt_34 : ∀ q_, tabS b al q_ → ¬ own (some ⟨b_22, 0, none⟩) q_ := (fun q_ h1 h2 => h1.elim (fun e => pr_27 (e ▸ h2)) (fun h => (fun q_ h1 h2 => pr_28 q_ h2 h1) q_ h h2))
      have pt_35 : ∀ q_, tabS b al q_ → q_ < w.heap.size → (tabS b al) q_ := (fun q_ h1 hlt => h1.elim (fun e => e ▸ (Or.inl rfl)) (fun h => (fun x h _ => Or.inr h) q_ h hlt))
      clear hb ho
      rw [e1, e2]
      exact ⟨_, rfl, al, cl, some ⟨b_22, 0, none⟩, ([mkMsg 7 T.self ((m).n) ((m).req) ((m).owner) (-1)] : List MsgC).length, rfl, hT_32, ho_25, pw_31, (fun q_ h1 h2 => pt_34 q_ h2 h1), tabMoved' (fun x hx hlt => pt_35 x (.inr hx) hlt), K0⟩
    · try simp only [br] at hc27
      refine Run.skip ?_
      refine Run.inBlock ?_
      refine Run.seq ?_
      refine Run.region ?_
      refine RL.val (x_assignSl rfl) ?_
      refine RL.nil ?_
      refine Run.ret1 (v := .slice (none) (0) (0)) Try.func47 rfl rfl ?_
      have ho_36 := OwnSl.nil (α := MsgC) w_8 61
      have e1 : (pongedT T m).1 = T := by rw [pongedT, if_neg (by omega), if_neg (by omega)]
      have e2 : (pongedT T m).2 = ([] : List MsgC) := by rw [pongedT, if_neg (by omega), if_neg (by omega)]
      have hT_37 : TabAt w_8 b al cl T := ⟨hb, ho, hap, (by rw [← e1]; exact (ponged_ok ok).1)⟩
      have pt_38 : ¬ tabS b al b_1 := (fun h1 => h1.elim (fun e => absurd e (by omega)) (fun h => pr_7 h))
      have pt_39 : ∀ q_, tabS b al q_ → ¬ own none q_ := (fun q_ h1 h2 => h1.elim (fun e => (own_none b) (e ▸ h2)) (fun h => (fun q_ h1 h2 => (fun q_ h1 _ => own_none q_ h1) q_ h2 h1) q_ h h2))
      have pt_40 : ∀ q_, tabS b al q_ → q_ < w.heap.size → (tabS b al) q_ := (fun q_ h1 hlt => h1.elim (fun e => e ▸ (Or.inl rfl)) (fun h => (fun x h _ => Or.inr h) q_ h hlt))
      clear hb ho
      rw [e1, e2]
      exact ⟨_, rfl, al, cl, none, 0, rfl, hT_37, ho_36, (fun q_ h1 => absurd h1 (own_none q_)), (fun q_ h1 h2 => pt_39 q_ h2 h1), tabMoved' (fun x hx hlt => pt_40 x (.inr hx) hlt), K0⟩

set_option maxRecDepth 100000 in
set_option maxHeartbeats 4000000 in
theorem on_ (b : Nat) (al : Option Addr) (cl : Nat) (T : Tab) (m : MsgC) (t : Int) (w : World) (hT : TabAt w b al cl T) (ht : t ≤ 9223372036854775807) (hpl : T.pings.length ≤ 1048576) :
    Calls Try.prog 26 #[.pointer (some ⟨b, 0, none⟩), .agg #[.int .i64 ((m).kind), .int .i64 ((m).frm), .int .i64 ((m).to), .int .i64 ((m).req), .string ((m).key), .slice ((m).entries.a) ((m).entries.len) ((m).entries.cap), .slice ((m).marks.a) ((m).marks.len) ((m).marks.cap), .slice ((m).cloud.a) ((m).cloud.len) ((m).cloud.cap), .int .i64 ((m).owner), .int .i64 ((m).part), .int .i64 ((m).n), .int .i64 ((m).rparts), .int .i64 ((m).rcopies), .int .i64 ((m).rspots), .slice ((m).members.a) ((m).members.len) ((m).members.cap), .slice ((m).peers.a) ((m).peers.len) ((m).peers.cap), .slice ((m).sums.a) ((m).sums.len) ((m).sums.cap)], .int .i64 (t)] w (Ret (fun v w' => ∃ al' cl' a0 c0 a1 c1, v = .tuple #[.slice a0 (on T m t).out.length c0, .slice a1 (on T m t).told.length c1] ∧ TabAt w' b al' cl' ((on T m t).T) ∧ OwnSl w' 61 a0 c0 ((on T m t).out) ∧ OwnSl w' 23 a1 c1 ((on T m t).told) ∧ (∀ x, own a0 x → w.heap.size ≤ x) ∧ (∀ x, own a1 x → w.heap.size ≤ x) ∧ (∀ x, own a0 x → ¬ tabS b al' x) ∧ (∀ x, own a1 x → ¬ tabS b al' x) ∧ (∀ x, own a0 x → ¬ own a1 x) ∧ MovedS w (tabS b al) (tabS b al') ∧ Keeps (tabS b al) w w')) := by
  have hz0 : ∀ q_, tabS b al q_ → q_ < w.heap.size → tabS b al q_ := fun _ h _ => h
  have h1_ := passT_ok hT.ok ht
  have e_ : (passT T t).pings = T.pings := rfl
  have e2_ : (passT T t).self = T.self := rfl
  refine calls_run (n := 71) Try.func26 rfl rfl rfl ?_
  refine Run.seq ?_
  refine Run.region ?_
  refine RL.st rfl <| St1.box (v := .agg #[.int .i64 ((m).kind), .int .i64 ((m).frm), .int .i64 ((m).to), .int .i64 ((m).req), .string ((m).key), .slice ((m).entries.a) ((m).entries.len) ((m).entries.cap), .slice ((m).marks.a) ((m).marks.len) ((m).marks.cap), .slice ((m).cloud.a) ((m).cloud.len) ((m).cloud.cap), .int .i64 ((m).owner), .int .i64 ((m).part), .int .i64 ((m).n), .int .i64 ((m).rparts), .int .i64 ((m).rcopies), .int .i64 ((m).rspots), .slice ((m).members.a) ((m).members.len) ((m).members.cap), .slice ((m).peers.a) ((m).peers.len) ((m).peers.cap), .slice ((m).sums.a) ((m).sums.len) ((m).sums.cap)]) rfl ?_
  intro b_1 w_2 hl_5 hb_4 K_3
  replace hb_4 : Blk w_2 b_1 [.int .i64 ((m).kind), .int .i64 ((m).frm), .int .i64 ((m).to), .int .i64 ((m).req), .string ((m).key), .slice ((m).entries.a) ((m).entries.len) ((m).entries.cap), .slice ((m).marks.a) ((m).marks.len) ((m).marks.cap), .slice ((m).cloud.a) ((m).cloud.len) ((m).cloud.cap), .int .i64 ((m).owner), .int .i64 ((m).part), .int .i64 ((m).n), .int .i64 ((m).rparts), .int .i64 ((m).rcopies), .int .i64 ((m).rspots), .slice ((m).members.a) ((m).members.len) ((m).members.cap), .slice ((m).peers.a) ((m).peers.len) ((m).peers.cap), .slice ((m).sums.a) ((m).sums.len) ((m).sums.cap)] 61 := hb_4
  have pr_6 : ¬ tabS b al b_1 := fun h => absurd (hT.own_lt _ h) (by omega)
  have : w.heap.size ≤ b_1 := hl_5
  clear hl_5
  replace hT := hT.ext K_3
  have K0 := (K_3 : Ext w _).to (S := (tabS b al))
  refine RL.val (x_assignSl rfl) ?_
  refine RL.val (x_assignSl rfl) ?_
  refine RL.nil ?_
  refine Run.seq ?_
  refine Run.seq ?_
  refine Run.region ?_
  refine RL.val (x_moveP rfl) ?_
  refine RL.st rfl <| St1.call (vals := [.pointer (some ⟨b, 0, none⟩)]) en38 rfl (there_ _ _ _ T _ hT.blk hT.ok.len) ?_
  rintro _ w_7 ⟨rfl, K_8⟩
  replace hT := hT.ext K_8
  replace hb_4 := hb_4.ext K_8
  replace K0 := K0.ext K_8
  refine RL.val (x_not rfl) ?_
  refine RL.nil ?_
  refine Run.condF rfl ?_
  refine Run.skip ?_
  refine Run.seq ?_
  refine Run.region ?_
  refine RL.val (x_moveP rfl) ?_
  refine RL.val (x_moveI rfl) ?_
  refine RL.st rfl <| St1.call (vals := [.pointer (some ⟨b, 0, none⟩), .int .i64 (t)]) en39 rfl (pass_ _ _ _ T t _ hT (by omega)) ?_
  rintro _ w_9 ⟨rfl, hT_10, K_11⟩
  replace hb_4 := hb_4.keep K_11 pr_6
  replace K0 := K0.trans K_11 (fun x hlt hx => hz0 x hx hlt)
  replace hT := hT_10
  clear hT_10
  refine RL.nil ?_
  refine Run.seq ?_
  refine Run.seq ?_
  obtain ⟨hb12, ho12, hap12, ok12⟩ := hT
  have hl12 := ok12.len
  replace hb12 : Blk w_9 b (([.bool (true), .int .i64 ((passT T t).self), .int .i64 ((passT T t).now)] : List Value) ++ flat ((passT T t).l) ++ ([.slice (al) ((passT T t).pings.length) (cl), .int .i64 ((passT T t).req), .bool ((passT T t).begun), .int .i64 ((passT T t).last), .int .i64 ((passT T t).target)] : List Value)) 71 := hb12
  have ne_13 : b_1 ≠ b := fun e => pr_6 (.inl e)
  refine Run.draw' (m := 27) (by kernel_rfl) rfl ?_
  intro w_14 K_15
  replace hb_4 := hb_4.ext K_15
  replace hb12 := hb12.ext K_15
  replace ho12 := ho12.ext K_15
  replace K0 := K0.ext K_15
  refine RA.take (v := .pointer (some ⟨b_1, 0, none⟩)) 0 rfl (by kernel_rfl) rfl (by rintro _ rfl; exact (x_fld (o' := 0) Try.underlying61 rfl ty3 rfl rfl rfl)) ?_
  refine RA.take (v := .int .i64 ((m).kind)) 1 rfl (by kernel_rfl) rfl (by rintro _ rfl; exact (x_ld (v := .int .i64 ((m).kind)) ty3 rfl rfl (hb_4.cl.field (i := 0) rfl))) ?_
  refine RA.take (v := .bool (((m).kind) != 6)) 2 rfl (by kernel_rfl) rfl (by rintro _ rfl; exact (x_neI rfl rfl)) ?_
  refine RA.take (v := .bool (((m).kind) != 6)) 3 rfl (by kernel_rfl) rfl (by rintro _ rfl; exact (x_moveB rfl)) ?_
  refine RA.gtake (v := .pointer (some ⟨b_1, 0, none⟩)) 4 rfl (by kernel_rfl) rfl (wantedT rfl rfl rfl rfl) (fun hg => by rintro _ rfl; exact (x_fld (o' := 0) Try.underlying61 rfl ty3 rfl rfl rfl)) ?_
  refine RA.gtake (v := .int .i64 ((m).kind)) 5 rfl (by kernel_rfl) rfl (wantedT rfl rfl rfl rfl) (fun hg => by rintro _ rfl; exact (x_ld (v := .int .i64 ((m).kind)) ty3 (gvr hg) rfl (hb_4.cl.field (i := 0) rfl))) ?_
  refine RA.gtake (v := .bool (((m).kind) != 7)) 6 rfl (by kernel_rfl) rfl (wantedT rfl rfl rfl rfl) (fun hg => by rintro _ rfl; exact (x_neI (gvr hg) rfl)) ?_
  refine RA.take (v := .bool ((((m).kind) != 6) && (((m).kind) != 7))) 7 rfl (by kernel_rfl) rfl (by rintro _ rfl; exact (x_and rfl rfl rfl)) ?_
  refine RA.take (v := .bool ((((m).kind) != 6) && (((m).kind) != 7))) 8 rfl (by kernel_rfl) rfl (by rintro _ rfl; exact (x_moveB rfl)) ?_
  refine RA.gtake (v := .pointer (some ⟨b_1, 1, none⟩)) 9 rfl (by kernel_rfl) rfl (wantedF rfl rfl rfl rfl) (fun hg => by rintro _ rfl; exact (x_fld (o' := 1) Try.underlying61 rfl ty3 rfl rfl rfl)) ?_
  refine RA.gtake (v := .int .i64 ((m).frm)) 10 rfl (by kernel_rfl) rfl (wantedF rfl rfl rfl rfl) (fun hg => by rintro _ rfl; exact (x_ld (v := .int .i64 ((m).frm)) ty3 (gvr hg) rfl (hb_4.cl.field (i := 1) rfl))) ?_
  refine RA.gtake (v := .bool (decide (((m).frm) < 0))) 11 rfl (by kernel_rfl) rfl (wantedF rfl rfl rfl rfl) (fun hg => by rintro _ rfl; exact (x_ltI (gvr hg) rfl)) ?_
  refine RA.take (v := .bool (((((m).kind) != 6) && (((m).kind) != 7)) || (decide (((m).frm) < 0)))) 12 rfl (by kernel_rfl) rfl (by rintro _ rfl; exact (x_or rfl rfl rfl)) ?_
  refine RA.take (v := .bool (((((m).kind) != 6) && (((m).kind) != 7)) || (decide (((m).frm) < 0)))) 13 rfl (by kernel_rfl) rfl (by rintro _ rfl; exact (x_moveB rfl)) ?_
  refine RA.gtake (v := .pointer (some ⟨b_1, 1, none⟩)) 14 rfl (by kernel_rfl) rfl (wantedF rfl rfl rfl rfl) (fun hg => by rintro _ rfl; exact (x_fld (o' := 1) Try.underlying61 rfl ty3 rfl rfl rfl)) ?_
  refine RA.gtake (v := .int .i64 ((m).frm)) 15 rfl (by kernel_rfl) rfl (wantedF rfl rfl rfl rfl) (fun hg => by rintro _ rfl; exact (x_ld (v := .int .i64 ((m).frm)) ty3 (gvr hg) rfl (hb_4.cl.field (i := 1) rfl))) ?_
  refine RA.gtake (v := .bool (decide (8 ≤ ((m).frm)))) 16 rfl (by kernel_rfl) rfl (wantedF rfl rfl rfl rfl) (fun hg => by rintro _ rfl; exact (x_geI (gvr hg) rfl)) ?_
  refine RA.take (v := .bool ((((((m).kind) != 6) && (((m).kind) != 7)) || (decide (((m).frm) < 0))) || (decide (8 ≤ ((m).frm))))) 17 rfl (by kernel_rfl) rfl (by rintro _ rfl; exact (x_or rfl rfl rfl)) ?_
  refine RA.take (v := .bool ((((((m).kind) != 6) && (((m).kind) != 7)) || (decide (((m).frm) < 0))) || (decide (8 ≤ ((m).frm))))) 18 rfl (by kernel_rfl) rfl (by rintro _ rfl; exact (x_moveB rfl)) ?_
  refine RA.gtake (v := .pointer (some ⟨b_1, 1, none⟩)) 19 rfl (by kernel_rfl) rfl (wantedF rfl rfl rfl rfl) (fun hg => by rintro _ rfl; exact (x_fld (o' := 1) Try.underlying61 rfl ty3 rfl rfl rfl)) ?_
  refine RA.gtake (v := .int .i64 ((m).frm)) 20 rfl (by kernel_rfl) rfl (wantedF rfl rfl rfl rfl) (fun hg => by rintro _ rfl; exact (x_ld (v := .int .i64 ((m).frm)) ty3 (gvr hg) rfl (hb_4.cl.field (i := 1) rfl))) ?_
  refine RA.gtake (v := .pointer (some ⟨b, 0, none⟩)) 21 rfl (by kernel_rfl) rfl (wantedF rfl rfl rfl rfl) (fun hg => by rintro _ rfl; exact (x_moveP rfl)) ?_
  refine RA.gtake (v := .pointer (some ⟨b, 0, none⟩)) 22 rfl (by kernel_rfl) rfl (wantedF rfl rfl rfl rfl) (fun hg => by rintro _ rfl; exact (x_nilCheck (gvr hg))) ?_
  refine RA.gtake (v := .pointer (some ⟨b, 1, none⟩)) 23 rfl (by kernel_rfl) rfl (wantedF rfl rfl rfl rfl) (fun hg => by rintro _ rfl; exact (x_fld (o' := 1) Try.underlying71 rfl ty3 rfl (gvr hg) rfl)) ?_
  refine RA.gtake (v := .int .i64 ((passT T t).self)) 24 rfl (by kernel_rfl) rfl (wantedF rfl rfl rfl rfl) (fun hg => by rintro _ rfl; exact (x_ld (v := .int .i64 ((passT T t).self)) ty3 (gvr hg) rfl (hb12.cl.field (i := 1) (seg_head rfl)))) ?_
  refine RA.gtake (v := .bool (((m).frm) == ((passT T t).self))) 25 rfl (by kernel_rfl) rfl (wantedF rfl rfl rfl rfl) (fun hg => by rintro _ rfl; exact (x_eqI (gvr hg) (gvr hg))) ?_
  refine RA.take (v := .bool (((((((m).kind) != 6) && (((m).kind) != 7)) || (decide (((m).frm) < 0))) || (decide (8 ≤ ((m).frm)))) || (((m).frm) == ((passT T t).self)))) 26 rfl (by kernel_rfl) rfl (by rintro _ rfl; exact (x_or rfl rfl rfl)) ?_
  refine RA.done (by kernel_rfl) ?_
  refine Run.cond rfl (fun hc41 => ?_) (fun hc41 => ?_)
  · try simp only [br] at hc41
    refine Run.seq ?_
    refine Run.region ?_
    refine RL.val (x_assignSl rfl) ?_
    refine RL.val (x_assignSl rfl) ?_
    refine RL.nil ?_
    refine Run.ret2 (v := .slice (none) (0) (0)) (x := .slice (none) (0) (0)) Try.func26 rfl rfl rfl ?_
    have ho_16 := OwnSl.nil (α := MsgC) w_14 61
    have ho_17 := OwnSl.nil (α := Peer) w_14 23
    have hT_18 : TabAt w_14 b al cl (passT T t) := ⟨hb12, ho12, hap12, ok12⟩
    have pt_19 : ¬ tabS b al b_1 := (fun h1 => h1.elim (fun e => absurd e (by omega)) (fun h => (fun h1 => pr_6 (.inr h1)) h))
    have pt_20 : ∀ q_, tabS b al q_ → ¬ own none q_ := (fun q_ h1 h2 => h1.elim (fun e => (own_none b) (e ▸ h2)) (fun h => (fun q_ h1 h2 => (fun q_ h1 _ => own_none q_ h1) q_ h2 h1) q_ h h2))
    have pt_21 : ∀ q_, tabS b al q_ → ¬ own none q_ := (fun q_ h1 h2 => h1.elim (fun e => (own_none b) (e ▸ h2)) (fun h => (fun q_ h1 h2 => (fun q_ h1 _ => own_none q_ h1) q_ h2 h1) q_ h h2))
    have pt_22 : ∀ q_, tabS b al q_ → q_ < w.heap.size → (tabS b al) q_ := (fun q_ h1 hlt => h1.elim (fun e => e ▸ (Or.inl rfl)) (fun h => (fun q_ h1 hlt => hz0 q_ (.inr h1) hlt) q_ h hlt))
    clear hb12 ho12
    have e := on_no (t := t) (by omega : (((m.kind ≠ 6 ∧ m.kind ≠ 7) ∨ m.frm < 0) ∨ 8 ≤ m.frm) ∨ m.frm = T.self)
    have e1 : (on T m t).T = passT T t := by rw [e]
    have e2 : (on T m t).out = ([] : List MsgC) := by rw [e]
    have e3 : (on T m t).told = ([] : List Peer) := by rw [e]; try rfl
    rw [e1, e2, e3]
    exact ⟨_, rfl, al, cl, none, 0, none, 0, rfl, hT_18, ho_16, ho_17, (fun q_ h1 => absurd h1 (own_none q_)), (fun q_ h1 => absurd h1 (own_none q_)), (fun q_ h1 h2 => pt_20 q_ h2 h1), (fun q_ h1 h2 => pt_21 q_ h2 h1), (fun q_ h1 _ => own_none q_ h1), tabMoved' (fun x hx hlt => pt_22 x (.inr hx) hlt), K0⟩
  · try simp only [br] at hc41
    have hno : ¬ ((((m.kind ≠ 6 ∧ m.kind ≠ 7) ∨ m.frm < 0) ∨ 8 ≤ m.frm) ∨ m.frm = T.self) := by omega
    refine Run.skip ?_
    refine Run.seq ?_
    refine Run.region ?_
    refine RL.val (x_assignSl rfl) ?_
    refine RL.nil ?_
    refine Run.seq ?_
    refine Run.seq ?_
    obtain ⟨k, hk⟩ : ∃ x_, ((passT T t).l)[((m).frm).toNat]? = some x_ := ⟨_, List.getElem?_eq_getElem (by rw [hl12]; omega)⟩
    refine Run.draw' (m := 10) (by kernel_rfl) rfl ?_
    intro w_23 K_24
    replace hb_4 := hb_4.ext K_24
    replace hb12 := hb12.ext K_24
    replace ho12 := ho12.ext K_24
    replace K0 := K0.ext K_24
    refine RA.take (v := .pointer (some ⟨b, 0, none⟩)) 0 rfl (by kernel_rfl) rfl (by rintro _ rfl; exact (x_moveP rfl)) ?_
    refine RA.take (v := .pointer (some ⟨b_1, 1, none⟩)) 1 rfl (by kernel_rfl) rfl (by rintro _ rfl; exact (x_fld (o' := 1) Try.underlying61 rfl ty3 rfl rfl rfl)) ?_
    refine RA.take (v := .int .i64 ((m).frm)) 2 rfl (by kernel_rfl) rfl (by rintro _ rfl; exact (x_ld (v := .int .i64 ((m).frm)) ty3 rfl rfl (hb_4.cl.field (i := 1) rfl))) ?_
    refine RA.take (v := .pointer (some ⟨b, 0, none⟩)) 3 rfl (by kernel_rfl) rfl (by rintro _ rfl; exact (x_nilCheck rfl)) ?_
    refine RA.take (v := .pointer (some ⟨b, 3, none⟩)) 4 rfl (by kernel_rfl) rfl (by rintro _ rfl; exact (x_fld (o' := 3) Try.underlying71 rfl ty68 rfl rfl rfl)) ?_
    refine RA.take (v := .pointer (some ⟨b, 3 + ((m).frm).toNat * 4, none⟩)) 5 rfl (by kernel_rfl) rfl (by rintro _ rfl; exact (x_idxA Try.underlying68 ty67 rfl rfl (by omega) (by omega))) ?_
    refine RA.take (v := .pointer (some ⟨b, 3 + ((m).frm).toNat * 4 + 0, none⟩)) 6 rfl (by kernel_rfl) rfl (by rintro _ rfl; exact (x_fld (o' := 3 + ((m).frm).toNat * 4 + 0) Try.underlying67 rfl ty23 rfl rfl rfl)) ?_
    refine RA.take (v := .pointer (some ⟨b, 3 + ((m).frm).toNat * 4 + 0 + 2, none⟩)) 7 rfl (by kernel_rfl) rfl (by rintro _ rfl; exact (x_fld (o' := 3 + ((m).frm).toNat * 4 + 0 + 2) Try.underlying23 rfl ty3 rfl rfl rfl)) ?_
    obtain ⟨k, hk⟩ : ∃ x_, ((passT T t).l)[((m).frm).toNat]? = some x_ := ⟨_, List.getElem?_eq_getElem (by rw [hl12]; omega)⟩
    refine RA.take (v := .int .i64 (((k).peer).status)) 8 rfl (by kernel_rfl) rfl (by rintro _ rfl; exact (x_ld (v := .int .i64 (((k).peer).status)) ty3 rfl rfl ((seg_cl hb12 hk).field (i := 2) rfl))) ?_
    refine RA.take (v := .bool ((((k).peer).status) == 0)) 9 rfl (by kernel_rfl) rfl (by rintro _ rfl; exact (x_eqI rfl rfl)) ?_
    refine RA.done (by kernel_rfl) ?_
    refine Run.cond rfl (fun hc51 => ?_) (fun hc51 => ?_)
    · try simp only [br] at hc51
      refine Run.region ?_
      refine RL.val (x_moveSl rfl) ?_
      refine RL.val (x_moveP rfl) ?_
      refine RL.val (x_fld (o' := 1) Try.underlying61 rfl ty3 rfl rfl rfl) ?_
      refine RL.val (x_ld (v := .int .i64 ((m).frm)) ty3 rfl rfl (hb_4.cl.field (i := 1) rfl)) ?_
      refine RL.val (x_build (cells := #[.int .i64 ((m).frm), .int .i64 (0), .int .i64 (1)]) (by kernel_rfl)) ?_
      have hT_25 : TabAt w_23 b al cl (passT T t) := ⟨hb12, ho12, hap12, ok12⟩
      have pt_26 : ¬ tabS b al b_1 := (fun h1 => h1.elim (fun e => absurd e (by omega)) (fun h => (fun h1 => pr_6 (.inr h1)) h))
      have pt_27 : ∀ q_, tabS b al q_ → q_ < w.heap.size → (tabS b al) q_ := (fun q_ h1 hlt => h1.elim (fun e => e ▸ (Or.inl rfl)) (fun h => (fun q_ h1 hlt => hz0 q_ (.inr h1) hlt) q_ h hlt))
      clear hb12 ho12
      refine RL.st rfl <| St1.call (vals := [.pointer (some ⟨b, 0, none⟩), .agg #[.int .i64 ((m).frm), .int .i64 (0), .int .i64 (1)]]) en42 rfl (learn_ _ _ _ (passT T t) (⟨(m).frm, 0, 1⟩ : Peer) _ hT_25 (by first | omega | (simp only; omega))) ?_
      rintro _ w_28 ⟨rfl, hT_29, K_30⟩
      replace hb_4 := hb_4.keep K_30 pt_26
      replace K0 := K0.trans K_30 (fun x hlt hx => pt_27 x hx hlt)
      replace hT_25 := hT_29
      clear hT_29
      refine RL.st rfl <| St1.buildSlice ([(⟨(m).frm, 0, 1⟩ : Peer)] : List Peer) Try.underlying32 ty23 rfl rfl (by first | decide | (simp [Enc.size])) ?_
      intro b_31 w_32 hl_35 ho_34 K_33
      have pr_36 : ¬ own (some ⟨b_31, 0, none⟩) b_1 := notNew (ge_new hl_35) hb_4.lt
      have pr_37 : ∀ q_, own (some ⟨b_31, 0, none⟩) q_ → ¬ tabS b al q_ := apartNew (ge_new hl_35) hT_25.own_lt
      have pg_38 : ∀ q_, own (some ⟨b_31, 0, none⟩) q_ → q_ < w.heap.size → (tabS b al) q_ := fun q_ h hlt => absurd (Nat.le_trans K0.size ((ge_new hl_35) q_ h)) (by omega)
      have pw_39 : ∀ q_, own (some ⟨b_31, 0, none⟩) q_ → w.heap.size ≤ q_ := fun q_ h => Nat.le_trans K0.size ((ge_new hl_35) q_ h)
      clear hl_35
      replace hb_4 := hb_4.ext K_33
      replace hT_25 := hT_25.ext K_33
      replace K0 := K0.ext K_33
      have ho_40 := OwnSl.nil (α := Peer) w_32 23
      refine RL.st rfl <| St1.append (xs := ([] : List Peer)) (ys := ([(⟨(m).frm, 0, 1⟩ : Peer)] : List Peer)) Try.underlying32 ty23 rfl rfl rfl ho_40 ho_34.sl (by first | omega | (simp only [lr]; omega)) (by decide) ?_
      intro a_41 c_42 w_43 ho_44 K_45 hm_46 hrm_47
      have pr_48 : ¬ own a_41 b_1 := hm_46.not (own_none b_1) hb_4.lt
      have pr_49 : ∀ q_, own a_41 q_ → ¬ tabS b al q_ := hm_46.apart (fun q_ h1 _ => own_none q_ h1) hT_25.own_lt
      have pr_50 : ∀ q_, own a_41 q_ → ¬ own (some ⟨b_31, 0, none⟩) q_ := hm_46.apart (fun q_ h1 _ => own_none q_ h1) ho_34.own_lt
      have pg_51 : ∀ q_, own a_41 q_ → q_ < w.heap.size → (tabS b al) q_ := hm_46.inS (fun q_ h1 _ => absurd h1 (own_none q_)) K0.size
      have pw_52 : ∀ q_, own a_41 q_ → w.heap.size ≤ q_ := hm_46.ge (fun q_ h1 => absurd h1 (own_none q_)) K0.size
      replace hb_4 := hb_4.keep K_45 (own_none b_1)
      replace hT_25 := hT_25.keepO K_45 (fun q_ h1 h2 => (fun q_ h1 _ => own_none q_ h1) q_ h2 h1)
      replace ho_34 := ho_34.keepO K_45 (fun q_ h1 h2 => (fun q_ h1 _ => own_none q_ h1) q_ h2 h1)
      replace K0 := K0.trans K_45 (fun x hlt hx => (fun q_ h1 _ => absurd h1 (own_none q_)) x hx hlt)
      clear hm_46
      clear hrm_47
      refine RL.val (x_assignSl rfl) ?_
      refine RL.nil ?_
      refine Run.seq ?_
      refine Run.seq ?_
      refine Run.region ?_
      refine RL.val (x_fld (o' := 0) Try.underlying61 rfl ty3 rfl rfl rfl) ?_
      refine RL.val (x_ld (v := .int .i64 ((m).kind)) ty3 rfl rfl (hb_4.cl.field (i := 0) rfl)) ?_
      refine RL.val (x_eqI rfl rfl) ?_
      refine RL.nil ?_
      refine Run.cond rfl (fun hc62 => ?_) (fun hc62 => ?_)
      · try simp only [br] at hc62
        refine Run.seq ?_
        refine Run.region ?_
        refine RL.val (x_moveP rfl) ?_
        refine RL.val (x_lds (cs := #[.int .i64 ((m).kind), .int .i64 ((m).frm), .int .i64 ((m).to), .int .i64 ((m).req), .string ((m).key), .slice ((m).entries.a) ((m).entries.len) ((m).entries.cap), .slice ((m).marks.a) ((m).marks.len) ((m).marks.cap), .slice ((m).cloud.a) ((m).cloud.len) ((m).cloud.cap), .int .i64 ((m).owner), .int .i64 ((m).part), .int .i64 ((m).n), .int .i64 ((m).rparts), .int .i64 ((m).rcopies), .int .i64 ((m).rspots), .slice ((m).members.a) ((m).members.len) ((m).members.cap), .slice ((m).peers.a) ((m).peers.len) ((m).peers.cap), .slice ((m).sums.a) ((m).sums.len) ((m).sums.cap)]) ty61 rfl rfl (hb_4.cl.drop 0 17)) ?_
        refine RL.st rfl <| St1.call (vals := [.pointer (some ⟨b, 0, none⟩), .agg #[.int .i64 ((m).kind), .int .i64 ((m).frm), .int .i64 ((m).to), .int .i64 ((m).req), .string ((m).key), .slice ((m).entries.a) ((m).entries.len) ((m).entries.cap), .slice ((m).marks.a) ((m).marks.len) ((m).marks.cap), .slice ((m).cloud.a) ((m).cloud.len) ((m).cloud.cap), .int .i64 ((m).owner), .int .i64 ((m).part), .int .i64 ((m).n), .int .i64 ((m).rparts), .int .i64 ((m).rcopies), .int .i64 ((m).rspots), .slice ((m).members.a) ((m).members.len) ((m).members.cap), .slice ((m).peers.a) ((m).peers.len) ((m).peers.cap), .slice ((m).sums.a) ((m).sums.len) ((m).sums.cap)]]) en46 rfl (pinged_ _ _ _ (learnT (passT T t) (⟨(m).frm, 0, 1⟩ : Peer)) (⟨(m).kind, (m).frm, (m).to, (m).req, (m).key, ⟨(m).entries.a, (m).entries.len, (m).entries.cap⟩, ⟨(m).marks.a, (m).marks.len, (m).marks.cap⟩, ⟨(m).cloud.a, (m).cloud.len, (m).cloud.cap⟩, (m).owner, (m).part, (m).n, (m).rparts, (m).rcopies, (m).rspots, ⟨(m).members.a, (m).members.len, (m).members.cap⟩, ⟨(m).peers.a, (m).peers.len, (m).peers.cap⟩, ⟨(m).sums.a, (m).sums.len, (m).sums.cap⟩⟩ : MsgC) _ hT_25.blk hT_25.ok.len) ?_
        rintro _ w_55 ⟨a_53, c_54, rfl, ho_56, hg_57, K_58⟩
        have pr_59 : ¬ own a_53 b_1 := notNew hg_57 hb_4.lt
        have pr_60 : ∀ q_, own a_53 q_ → ¬ tabS b al q_ := apartNew hg_57 hT_25.own_lt
        have pr_61 : ∀ q_, own a_53 q_ → ¬ own (some ⟨b_31, 0, none⟩) q_ := apartNew hg_57 ho_34.own_lt
        have pr_62 : ∀ q_, own a_53 q_ → ¬ own a_41 q_ := apartNew hg_57 ho_44.own_lt
        have pg_63 : ∀ q_, own a_53 q_ → q_ < w.heap.size → (tabS b al) q_ := fun q_ h hlt => absurd (Nat.le_trans K0.size (hg_57 q_ h)) (by omega)
        have pw_64 : ∀ q_, own a_53 q_ → w.heap.size ≤ q_ := fun q_ h => Nat.le_trans K0.size (hg_57 q_ h)
        clear hg_57
        replace hb_4 := hb_4.ext K_58
        replace hT_25 := hT_25.ext K_58
        replace ho_34 := ho_34.ext K_58
        replace ho_44 := ho_44.ext K_58
        replace K0 := K0.ext K_58
        refine RL.val (x_moveSl rfl) ?_
        refine RL.val (x_assignSl rfl) ?_
        refine RL.val (x_assignSl rfl) ?_
        refine RL.nil ?_
        refine Run.ret2 (v := .slice (a_53) ((pingedT (learnT (passT T t) (⟨(m).frm, 0, 1⟩ : Peer)) (⟨(m).kind, (m).frm, (m).to, (m).req, (m).key, ⟨(m).entries.a, (m).entries.len, (m).entries.cap⟩, ⟨(m).marks.a, (m).marks.len, (m).marks.cap⟩, ⟨(m).cloud.a, (m).cloud.len, (m).cloud.cap⟩, (m).owner, (m).part, (m).n, (m).rparts, (m).rcopies, (m).rspots, ⟨(m).members.a, (m).members.len, (m).members.cap⟩, ⟨(m).peers.a, (m).peers.len, (m).peers.cap⟩, ⟨(m).sums.a, (m).sums.len, (m).sums.cap⟩⟩ : MsgC)).length) (c_54)) (x := .slice (a_41) ((([] : List Peer) ++ ([(⟨(m).frm, 0, 1⟩ : Peer)] : List Peer)).length) (c_42)) Try.func26 rfl rfl rfl ?_
        have e := on_ping (T := T) (t := t) hno hc62
        rw [meet_new hk hc51] at e
        have e1 : (on T m t).T = learnT (passT T t) (⟨(m).frm, 0, 1⟩ : Peer) := by rw [e]
        have e2 : (on T m t).out = pingedT (learnT (passT T t) (⟨(m).frm, 0, 1⟩ : Peer)) (⟨(m).kind, (m).frm, (m).to, (m).req, (m).key, ⟨(m).entries.a, (m).entries.len, (m).entries.cap⟩, ⟨(m).marks.a, (m).marks.len, (m).marks.cap⟩, ⟨(m).cloud.a, (m).cloud.len, (m).cloud.cap⟩, (m).owner, (m).part, (m).n, (m).rparts, (m).rcopies, (m).rspots, ⟨(m).members.a, (m).members.len, (m).members.cap⟩, ⟨(m).peers.a, (m).peers.len, (m).peers.cap⟩, ⟨(m).sums.a, (m).sums.len, (m).sums.cap⟩⟩ : MsgC) := by rw [e]
        have e3 : (on T m t).told = ([] : List Peer) ++ ([(⟨(m).frm, 0, 1⟩ : Peer)] : List Peer) := by rw [e]; try rfl
        rw [e1, e2, e3]
        exact ⟨_, rfl, al, cl, a_53, c_54, a_41, c_42, rfl, hT_25, ho_56, ho_44, pw_64, pw_52, pr_60, pr_49, pr_62, tabMoved' (fun x hx hlt => pt_27 x (.inr hx) hlt), K0⟩
      · try simp only [br] at hc62
        refine Run.skip ?_
        refine Run.seq ?_
        have hpl1 : (passT T t).pings.length ≤ 1048576 := hpl
        have hpl2 : (learnT (passT T t) ⟨m.frm, 0, 1⟩).pings.length ≤ 1048576 := hpl
        refine Run.region ?_
        refine RL.val (x_moveP rfl) ?_
        refine RL.val (x_lds (cs := #[.int .i64 ((m).kind), .int .i64 ((m).frm), .int .i64 ((m).to), .int .i64 ((m).req), .string ((m).key), .slice ((m).entries.a) ((m).entries.len) ((m).entries.cap), .slice ((m).marks.a) ((m).marks.len) ((m).marks.cap), .slice ((m).cloud.a) ((m).cloud.len) ((m).cloud.cap), .int .i64 ((m).owner), .int .i64 ((m).part), .int .i64 ((m).n), .int .i64 ((m).rparts), .int .i64 ((m).rcopies), .int .i64 ((m).rspots), .slice ((m).members.a) ((m).members.len) ((m).members.cap), .slice ((m).peers.a) ((m).peers.len) ((m).peers.cap), .slice ((m).sums.a) ((m).sums.len) ((m).sums.cap)]) ty61 rfl rfl (hb_4.cl.drop 0 17)) ?_
        refine RL.st rfl <| St1.call (vals := [.pointer (some ⟨b, 0, none⟩), .agg #[.int .i64 ((m).kind), .int .i64 ((m).frm), .int .i64 ((m).to), .int .i64 ((m).req), .string ((m).key), .slice ((m).entries.a) ((m).entries.len) ((m).entries.cap), .slice ((m).marks.a) ((m).marks.len) ((m).marks.cap), .slice ((m).cloud.a) ((m).cloud.len) ((m).cloud.cap), .int .i64 ((m).owner), .int .i64 ((m).part), .int .i64 ((m).n), .int .i64 ((m).rparts), .int .i64 ((m).rcopies), .int .i64 ((m).rspots), .slice ((m).members.a) ((m).members.len) ((m).members.cap), .slice ((m).peers.a) ((m).peers.len) ((m).peers.cap), .slice ((m).sums.a) ((m).sums.len) ((m).sums.cap)]]) en47 rfl (ponged_ _ _ _ (learnT (passT T t) (⟨(m).frm, 0, 1⟩ : Peer)) (⟨(m).kind, (m).frm, (m).to, (m).req, (m).key, ⟨(m).entries.a, (m).entries.len, (m).entries.cap⟩, ⟨(m).marks.a, (m).marks.len, (m).marks.cap⟩, ⟨(m).cloud.a, (m).cloud.len, (m).cloud.cap⟩, (m).owner, (m).part, (m).n, (m).rparts, (m).rcopies, (m).rspots, ⟨(m).members.a, (m).members.len, (m).members.cap⟩, ⟨(m).peers.a, (m).peers.len, (m).peers.cap⟩, ⟨(m).sums.a, (m).sums.len, (m).sums.cap⟩⟩ : MsgC) _ hT_25 (by omega)) ?_
        rintro _ w_67 ⟨al_65, cl_66, a_71, c_72, rfl, hT_68, ho_73, hg_74, pr_75, hm_69, K_70⟩
        have pr_76 : ¬ own a_71 b_1 := notNew hg_74 hb_4.lt
        have pr_77 : ∀ q_, own a_71 q_ → ¬ tabS b al q_ := apartNew hg_74 hT_25.own_lt
        have pr_78 : ∀ q_, own a_71 q_ → ¬ own (some ⟨b_31, 0, none⟩) q_ := apartNew hg_74 ho_34.own_lt
        have pr_79 : ∀ q_, own a_71 q_ → ¬ own a_41 q_ := apartNew hg_74 ho_44.own_lt
        have pg_80 : ∀ q_, own a_71 q_ → q_ < w.heap.size → (tabS b al) q_ := fun q_ h hlt => absurd (Nat.le_trans K0.size (hg_74 q_ h)) (by omega)
        have pw_81 : ∀ q_, own a_71 q_ → w.heap.size ≤ q_ := fun q_ h => Nat.le_trans K0.size (hg_74 q_ h)
        have pr_82 : ¬ tabS b al_65 b_1 := hm_69.not pt_26 hb_4.lt
        have pr_83 : ∀ q_, tabS b al_65 q_ → ¬ own (some ⟨b_31, 0, none⟩) q_ := hm_69.apart (fun q_ h1 h2 => pr_37 q_ h2 h1) ho_34.own_lt
        have pr_84 : ∀ q_, tabS b al_65 q_ → ¬ own a_41 q_ := hm_69.apart (fun q_ h1 h2 => pr_49 q_ h2 h1) ho_44.own_lt
        have pg_85 : ∀ q_, tabS b al_65 q_ → q_ < w.heap.size → (tabS b al) q_ := hm_69.inS pt_27 K0.size
        replace hb_4 := hb_4.keep K_70 pt_26
        replace ho_34 := ho_34.keepO K_70 pr_37
        replace ho_44 := ho_44.keepO K_70 pr_49
        replace K0 := K0.trans K_70 (fun x hlt hx => pt_27 x hx hlt)
        clear hm_69
        clear hg_74
        refine RL.val (x_moveSl rfl) ?_
        refine RL.val (x_assignSl rfl) ?_
        refine RL.val (x_assignSl rfl) ?_
        refine RL.nil ?_
        refine Run.ret2 (v := .slice (a_71) (((pongedT (learnT (passT T t) (⟨(m).frm, 0, 1⟩ : Peer)) (⟨(m).kind, (m).frm, (m).to, (m).req, (m).key, ⟨(m).entries.a, (m).entries.len, (m).entries.cap⟩, ⟨(m).marks.a, (m).marks.len, (m).marks.cap⟩, ⟨(m).cloud.a, (m).cloud.len, (m).cloud.cap⟩, (m).owner, (m).part, (m).n, (m).rparts, (m).rcopies, (m).rspots, ⟨(m).members.a, (m).members.len, (m).members.cap⟩, ⟨(m).peers.a, (m).peers.len, (m).peers.cap⟩, ⟨(m).sums.a, (m).sums.len, (m).sums.cap⟩⟩ : MsgC)).2).length) (c_72)) (x := .slice (a_41) ((([] : List Peer) ++ ([(⟨(m).frm, 0, 1⟩ : Peer)] : List Peer)).length) (c_42)) Try.func26 rfl rfl rfl ?_
        have e := on_pong (T := T) (t := t) hno hc62
        rw [meet_new hk hc51] at e
        have e1 : (on T m t).T = (pongedT (learnT (passT T t) (⟨(m).frm, 0, 1⟩ : Peer)) (⟨(m).kind, (m).frm, (m).to, (m).req, (m).key, ⟨(m).entries.a, (m).entries.len, (m).entries.cap⟩, ⟨(m).marks.a, (m).marks.len, (m).marks.cap⟩, ⟨(m).cloud.a, (m).cloud.len, (m).cloud.cap⟩, (m).owner, (m).part, (m).n, (m).rparts, (m).rcopies, (m).rspots, ⟨(m).members.a, (m).members.len, (m).members.cap⟩, ⟨(m).peers.a, (m).peers.len, (m).peers.cap⟩, ⟨(m).sums.a, (m).sums.len, (m).sums.cap⟩⟩ : MsgC)).1 := by rw [e]
        have e2 : (on T m t).out = (pongedT (learnT (passT T t) (⟨(m).frm, 0, 1⟩ : Peer)) (⟨(m).kind, (m).frm, (m).to, (m).req, (m).key, ⟨(m).entries.a, (m).entries.len, (m).entries.cap⟩, ⟨(m).marks.a, (m).marks.len, (m).marks.cap⟩, ⟨(m).cloud.a, (m).cloud.len, (m).cloud.cap⟩, (m).owner, (m).part, (m).n, (m).rparts, (m).rcopies, (m).rspots, ⟨(m).members.a, (m).members.len, (m).members.cap⟩, ⟨(m).peers.a, (m).peers.len, (m).peers.cap⟩, ⟨(m).sums.a, (m).sums.len, (m).sums.cap⟩⟩ : MsgC)).2 := by rw [e]
        have e3 : (on T m t).told = ([] : List Peer) ++ ([(⟨(m).frm, 0, 1⟩ : Peer)] : List Peer) := by rw [e]; try rfl
        rw [e1, e2, e3]
        exact ⟨_, rfl, al_65, cl_66, a_71, c_72, a_41, c_42, rfl, hT_68, ho_73, ho_44, pw_81, pw_52, pr_75, (fun q_ h1 h2 => pr_84 q_ h2 h1), pr_79, tabMoved' (fun x hx hlt => pg_85 x (.inr hx) hlt), K0⟩
    · try simp only [br] at hc51
      refine Run.skip ?_
      refine Run.seq ?_
      refine Run.seq ?_
      refine Run.region ?_
      refine RL.val (x_fld (o' := 0) Try.underlying61 rfl ty3 rfl rfl rfl) ?_
      refine RL.val (x_ld (v := .int .i64 ((m).kind)) ty3 rfl rfl (hb_4.cl.field (i := 0) rfl)) ?_
      refine RL.val (x_eqI rfl rfl) ?_
      refine RL.nil ?_
      refine Run.cond rfl (fun hc62 => ?_) (fun hc62 => ?_)
      · try simp only [br] at hc62
        refine Run.seq ?_
        refine Run.region ?_
        refine RL.val (x_moveP rfl) ?_
        refine RL.val (x_lds (cs := #[.int .i64 ((m).kind), .int .i64 ((m).frm), .int .i64 ((m).to), .int .i64 ((m).req), .string ((m).key), .slice ((m).entries.a) ((m).entries.len) ((m).entries.cap), .slice ((m).marks.a) ((m).marks.len) ((m).marks.cap), .slice ((m).cloud.a) ((m).cloud.len) ((m).cloud.cap), .int .i64 ((m).owner), .int .i64 ((m).part), .int .i64 ((m).n), .int .i64 ((m).rparts), .int .i64 ((m).rcopies), .int .i64 ((m).rspots), .slice ((m).members.a) ((m).members.len) ((m).members.cap), .slice ((m).peers.a) ((m).peers.len) ((m).peers.cap), .slice ((m).sums.a) ((m).sums.len) ((m).sums.cap)]) ty61 rfl rfl (hb_4.cl.drop 0 17)) ?_
        refine RL.st rfl <| St1.call (vals := [.pointer (some ⟨b, 0, none⟩), .agg #[.int .i64 ((m).kind), .int .i64 ((m).frm), .int .i64 ((m).to), .int .i64 ((m).req), .string ((m).key), .slice ((m).entries.a) ((m).entries.len) ((m).entries.cap), .slice ((m).marks.a) ((m).marks.len) ((m).marks.cap), .slice ((m).cloud.a) ((m).cloud.len) ((m).cloud.cap), .int .i64 ((m).owner), .int .i64 ((m).part), .int .i64 ((m).n), .int .i64 ((m).rparts), .int .i64 ((m).rcopies), .int .i64 ((m).rspots), .slice ((m).members.a) ((m).members.len) ((m).members.cap), .slice ((m).peers.a) ((m).peers.len) ((m).peers.cap), .slice ((m).sums.a) ((m).sums.len) ((m).sums.cap)]]) en46 rfl (pinged_ _ _ _ (passT T t) (⟨(m).kind, (m).frm, (m).to, (m).req, (m).key, ⟨(m).entries.a, (m).entries.len, (m).entries.cap⟩, ⟨(m).marks.a, (m).marks.len, (m).marks.cap⟩, ⟨(m).cloud.a, (m).cloud.len, (m).cloud.cap⟩, (m).owner, (m).part, (m).n, (m).rparts, (m).rcopies, (m).rspots, ⟨(m).members.a, (m).members.len, (m).members.cap⟩, ⟨(m).peers.a, (m).peers.len, (m).peers.cap⟩, ⟨(m).sums.a, (m).sums.len, (m).sums.cap⟩⟩ : MsgC) _ hb12 hl12) ?_
        rintro _ w_88 ⟨a_86, c_87, rfl, ho_89, hg_90, K_91⟩
        have pr_92 : ¬ own a_86 b_1 := notNew hg_90 hb_4.lt
        have pr_93 : ¬ own a_86 b := notNew hg_90 hb12.lt
        have pr_94 : ∀ q_, own a_86 q_ → ¬ own al q_ := apartNew hg_90 ho12.own_lt
        have pg_95 : ∀ q_, own a_86 q_ → q_ < w.heap.size → (tabS b al) q_ := fun q_ h hlt => absurd (Nat.le_trans K0.size (hg_90 q_ h)) (by omega)
        have pw_96 : ∀ q_, own a_86 q_ → w.heap.size ≤ q_ := fun q_ h => Nat.le_trans K0.size (hg_90 q_ h)
        clear hg_90
        replace hb_4 := hb_4.ext K_91
        replace hb12 := hb12.ext K_91
        replace ho12 := ho12.ext K_91
        replace K0 := K0.ext K_91
        refine RL.val (x_moveSl rfl) ?_
        refine RL.val (x_assignSl rfl) ?_
        refine RL.val (x_assignSl rfl) ?_
        refine RL.nil ?_
        refine Run.ret2 (v := .slice (a_86) ((pingedT (passT T t) (⟨(m).kind, (m).frm, (m).to, (m).req, (m).key, ⟨(m).entries.a, (m).entries.len, (m).entries.cap⟩, ⟨(m).marks.a, (m).marks.len, (m).marks.cap⟩, ⟨(m).cloud.a, (m).cloud.len, (m).cloud.cap⟩, (m).owner, (m).part, (m).n, (m).rparts, (m).rcopies, (m).rspots, ⟨(m).members.a, (m).members.len, (m).members.cap⟩, ⟨(m).peers.a, (m).peers.len, (m).peers.cap⟩, ⟨(m).sums.a, (m).sums.len, (m).sums.cap⟩⟩ : MsgC)).length) (c_87)) (x := .slice (none) (0) (0)) Try.func26 rfl rfl rfl ?_
        have ho_97 := OwnSl.nil (α := Peer) w_88 23
        have hT_98 : TabAt w_88 b al cl (passT T t) := ⟨hb12, ho12, hap12, ok12⟩
        have pt_99 : ¬ tabS b al b_1 := (fun h1 => h1.elim (fun e => absurd e (by omega)) (fun h => (fun h1 => pr_6 (.inr h1)) h))
        have pt_100 : ∀ q_, tabS b al q_ → ¬ own a_86 q_ := (fun q_ h1 h2 => h1.elim (fun e => pr_93 (e ▸ h2)) (fun h => (fun q_ h1 h2 => pr_94 q_ h2 h1) q_ h h2))
        have pt_101 : ∀ q_, tabS b al q_ → ¬ own none q_ := (fun q_ h1 h2 => h1.elim (fun e => (own_none b) (e ▸ h2)) (fun h => (fun q_ h1 h2 => (fun q_ h1 _ => own_none q_ h1) q_ h2 h1) q_ h h2))
        have pt_102 : ∀ q_, tabS b al q_ → q_ < w.heap.size → (tabS b al) q_ := (fun q_ h1 hlt => h1.elim (fun e => e ▸ (Or.inl rfl)) (fun h => (fun q_ h1 hlt => hz0 q_ (.inr h1) hlt) q_ h hlt))
        clear hb12 ho12
        have e := on_ping (T := T) (t := t) hno hc62
        rw [meet_old hk hc51] at e
        have e1 : (on T m t).T = passT T t := by rw [e]
        have e2 : (on T m t).out = pingedT (passT T t) (⟨(m).kind, (m).frm, (m).to, (m).req, (m).key, ⟨(m).entries.a, (m).entries.len, (m).entries.cap⟩, ⟨(m).marks.a, (m).marks.len, (m).marks.cap⟩, ⟨(m).cloud.a, (m).cloud.len, (m).cloud.cap⟩, (m).owner, (m).part, (m).n, (m).rparts, (m).rcopies, (m).rspots, ⟨(m).members.a, (m).members.len, (m).members.cap⟩, ⟨(m).peers.a, (m).peers.len, (m).peers.cap⟩, ⟨(m).sums.a, (m).sums.len, (m).sums.cap⟩⟩ : MsgC) := by rw [e]
        have e3 : (on T m t).told = ([] : List Peer) := by rw [e]; try rfl
        rw [e1, e2, e3]
        exact ⟨_, rfl, al, cl, a_86, c_87, none, 0, rfl, hT_98, ho_89, ho_97, pw_96, (fun q_ h1 => absurd h1 (own_none q_)), (fun q_ h1 h2 => pt_100 q_ h2 h1), (fun q_ h1 h2 => pt_101 q_ h2 h1), (fun q_ h1 h2 => (fun q_ h1 _ => own_none q_ h1) q_ h2 h1), tabMoved' (fun x hx hlt => pt_102 x (.inr hx) hlt), K0⟩
      · try simp only [br] at hc62
        refine Run.skip ?_
        refine Run.seq ?_
        have hpl1 : (passT T t).pings.length ≤ 1048576 := hpl
        have hpl2 : (learnT (passT T t) ⟨m.frm, 0, 1⟩).pings.length ≤ 1048576 := hpl
        refine Run.region ?_
        refine RL.val (x_moveP rfl) ?_
        refine RL.val (x_lds (cs := #[.int .i64 ((m).kind), .int .i64 ((m).frm), .int .i64 ((m).to), .int .i64 ((m).req), .string ((m).key), .slice ((m).entries.a) ((m).entries.len) ((m).entries.cap), .slice ((m).marks.a) ((m).marks.len) ((m).marks.cap), .slice ((m).cloud.a) ((m).cloud.len) ((m).cloud.cap), .int .i64 ((m).owner), .int .i64 ((m).part), .int .i64 ((m).n), .int .i64 ((m).rparts), .int .i64 ((m).rcopies), .int .i64 ((m).rspots), .slice ((m).members.a) ((m).members.len) ((m).members.cap), .slice ((m).peers.a) ((m).peers.len) ((m).peers.cap), .slice ((m).sums.a) ((m).sums.len) ((m).sums.cap)]) ty61 rfl rfl (hb_4.cl.drop 0 17)) ?_
        have hT_103 : TabAt w_23 b al cl (passT T t) := ⟨hb12, ho12, hap12, ok12⟩
        have pt_104 : ¬ tabS b al b_1 := (fun h1 => h1.elim (fun e => absurd e (by omega)) (fun h => (fun h1 => pr_6 (.inr h1)) h))
        have pt_105 : ∀ q_, tabS b al q_ → q_ < w.heap.size → (tabS b al) q_ := (fun q_ h1 hlt => h1.elim (fun e => e ▸ (Or.inl rfl)) (fun h => (fun q_ h1 hlt => hz0 q_ (.inr h1) hlt) q_ h hlt))
        clear hb12 ho12
        refine RL.st rfl <| St1.call (vals := [.pointer (some ⟨b, 0, none⟩), .agg #[.int .i64 ((m).kind), .int .i64 ((m).frm), .int .i64 ((m).to), .int .i64 ((m).req), .string ((m).key), .slice ((m).entries.a) ((m).entries.len) ((m).entries.cap), .slice ((m).marks.a) ((m).marks.len) ((m).marks.cap), .slice ((m).cloud.a) ((m).cloud.len) ((m).cloud.cap), .int .i64 ((m).owner), .int .i64 ((m).part), .int .i64 ((m).n), .int .i64 ((m).rparts), .int .i64 ((m).rcopies), .int .i64 ((m).rspots), .slice ((m).members.a) ((m).members.len) ((m).members.cap), .slice ((m).peers.a) ((m).peers.len) ((m).peers.cap), .slice ((m).sums.a) ((m).sums.len) ((m).sums.cap)]]) en47 rfl (ponged_ _ _ _ (passT T t) (⟨(m).kind, (m).frm, (m).to, (m).req, (m).key, ⟨(m).entries.a, (m).entries.len, (m).entries.cap⟩, ⟨(m).marks.a, (m).marks.len, (m).marks.cap⟩, ⟨(m).cloud.a, (m).cloud.len, (m).cloud.cap⟩, (m).owner, (m).part, (m).n, (m).rparts, (m).rcopies, (m).rspots, ⟨(m).members.a, (m).members.len, (m).members.cap⟩, ⟨(m).peers.a, (m).peers.len, (m).peers.cap⟩, ⟨(m).sums.a, (m).sums.len, (m).sums.cap⟩⟩ : MsgC) _ hT_103 (by omega)) ?_
        rintro _ w_108 ⟨al_106, cl_107, a_112, c_113, rfl, hT_109, ho_114, hg_115, pr_116, hm_110, K_111⟩
        have pr_117 : ¬ own a_112 b_1 := notNew hg_115 hb_4.lt
        have pr_118 : ∀ q_, own a_112 q_ → ¬ tabS b al q_ := apartNew hg_115 hT_103.own_lt
        have pg_119 : ∀ q_, own a_112 q_ → q_ < w.heap.size → (tabS b al) q_ := fun q_ h hlt => absurd (Nat.le_trans K0.size (hg_115 q_ h)) (by omega)
        have pw_120 : ∀ q_, own a_112 q_ → w.heap.size ≤ q_ := fun q_ h => Nat.le_trans K0.size (hg_115 q_ h)
        have pr_121 : ¬ tabS b al_106 b_1 := hm_110.not pt_104 hb_4.lt
        have pg_122 : ∀ q_, tabS b al_106 q_ → q_ < w.heap.size → (tabS b al) q_ := hm_110.inS pt_105 K0.size
        replace hb_4 := hb_4.keep K_111 pt_104
        replace K0 := K0.trans K_111 (fun x hlt hx => pt_105 x hx hlt)
        clear hm_110
        clear hg_115
        refine RL.val (x_moveSl rfl) ?_
        refine RL.val (x_assignSl rfl) ?_
        refine RL.val (x_assignSl rfl) ?_
        refine RL.nil ?_
        refine Run.ret2 (v := .slice (a_112) (((pongedT (passT T t) (⟨(m).kind, (m).frm, (m).to, (m).req, (m).key, ⟨(m).entries.a, (m).entries.len, (m).entries.cap⟩, ⟨(m).marks.a, (m).marks.len, (m).marks.cap⟩, ⟨(m).cloud.a, (m).cloud.len, (m).cloud.cap⟩, (m).owner, (m).part, (m).n, (m).rparts, (m).rcopies, (m).rspots, ⟨(m).members.a, (m).members.len, (m).members.cap⟩, ⟨(m).peers.a, (m).peers.len, (m).peers.cap⟩, ⟨(m).sums.a, (m).sums.len, (m).sums.cap⟩⟩ : MsgC)).2).length) (c_113)) (x := .slice (none) (0) (0)) Try.func26 rfl rfl rfl ?_
        have ho_123 := OwnSl.nil (α := Peer) w_108 23
        have e := on_pong (T := T) (t := t) hno hc62
        rw [meet_old hk hc51] at e
        have e1 : (on T m t).T = (pongedT (passT T t) (⟨(m).kind, (m).frm, (m).to, (m).req, (m).key, ⟨(m).entries.a, (m).entries.len, (m).entries.cap⟩, ⟨(m).marks.a, (m).marks.len, (m).marks.cap⟩, ⟨(m).cloud.a, (m).cloud.len, (m).cloud.cap⟩, (m).owner, (m).part, (m).n, (m).rparts, (m).rcopies, (m).rspots, ⟨(m).members.a, (m).members.len, (m).members.cap⟩, ⟨(m).peers.a, (m).peers.len, (m).peers.cap⟩, ⟨(m).sums.a, (m).sums.len, (m).sums.cap⟩⟩ : MsgC)).1 := by rw [e]
        have e2 : (on T m t).out = (pongedT (passT T t) (⟨(m).kind, (m).frm, (m).to, (m).req, (m).key, ⟨(m).entries.a, (m).entries.len, (m).entries.cap⟩, ⟨(m).marks.a, (m).marks.len, (m).marks.cap⟩, ⟨(m).cloud.a, (m).cloud.len, (m).cloud.cap⟩, (m).owner, (m).part, (m).n, (m).rparts, (m).rcopies, (m).rspots, ⟨(m).members.a, (m).members.len, (m).members.cap⟩, ⟨(m).peers.a, (m).peers.len, (m).peers.cap⟩, ⟨(m).sums.a, (m).sums.len, (m).sums.cap⟩⟩ : MsgC)).2 := by rw [e]
        have e3 : (on T m t).told = ([] : List Peer) := by rw [e]; try rfl
        rw [e1, e2, e3]
        exact ⟨_, rfl, al_106, cl_107, a_112, c_113, none, 0, rfl, hT_109, ho_114, ho_123, pw_120, (fun q_ h1 => absurd h1 (own_none q_)), pr_116, (fun q_ h1 _ => own_none q_ h1), (fun q_ h1 h2 => (fun q_ h1 _ => own_none q_ h1) q_ h2 h1), tabMoved' (fun x hx hlt => pg_122 x (.inr hx) hlt), K0⟩

end Go.Proofs.Ytagfdmdajmkddaa
