/-
  The reference's table: Tick, New, On.
-/
import Derived.Test.YtagfdmdajmkddaaRows
import Derived.Test.YtagfdmdajmkddaaLq
namespace Go.Proofs.Ytagfdmdajmkddaa
attribute [local irreducible] St1 RL RA RT RT1 Run

open Sa
theorem begin_no {T : Tab} (h : (T.begun = true ∧ T.now - T.last < 100) ∨ 1099511627776 ≤ T.req) : beginT T = (T, []) := by
  by_cases hw : T.begun = true ∧ T.now - T.last < 100
  · exact begin_wait hw
  · exact begin_none hw (.inr (h.resolve_left hw))
theorem begin_ref {T : Tab} (h : ¬ ((T.begun = true ∧ T.now - T.last < 100) ∨ 1099511627776 ≤ T.req)) (hn : ¬ nextT T < 0) : beginT T = ({ T with req := T.req + 1, begun := true, last := T.now, target := nextT T, pings := T.pings ++ [⟨nextT T, T.req + 1, T.now, false⟩] }, [mkMsg 6 T.self (nextT T) (T.req + 1) (-1) (-1)]) :=
  begin_yes (fun e => h (.inl e)) (by rintro (e | e); exact hn e; exact h (.inr e))
theorem begin_far {T : Tab} (h : ¬ ((T.begun = true ∧ T.now - T.last < 100) ∨ 1099511627776 ≤ T.req)) (hn : nextT T < 0) : beginT T = (T, []) := begin_none (fun e => h (.inl e)) (.inl hn)
section
attribute [local irreducible] oldT waitedT beginT passT
theorem tick_eq {T : Tab} {t : Int} {q : Tab × List MsgC} (e : beginT (waitedT (oldT (passT T t)).1).T = q) : (tick T t).T = q.1 ∧ (tick T t).out = (waitedT (oldT (passT T t)).1).out ++ q.2 ∧ (tick T t).told = (oldT (passT T t)).2 ++ (waitedT (oldT (passT T t)).1).told := by
  subst e; exact ⟨rfl, rfl, rfl⟩
end
attribute [local irreducible] oldT waitedT beginT tick meetT

theorem filt_yes {f : Ping → Bool} {l : List Ping} {i : Nat} {y : Ping} (h : l[i]? = some y) (hf : f y = true) : (l.take (i + 1)).filter f = (l.take i).filter f ++ [y] := by
  obtain ⟨hi, rfl⟩ := List.getElem?_eq_some_iff.1 h
  rw [List.take_succ_eq_append_getElem hi, List.filter_append, List.filter_cons, if_pos hf]; rfl
theorem filt_no {f : Ping → Bool} {l : List Ping} {i : Nat} {y : Ping} (h : l[i]? = some y) (hf : f y = false) : (l.take (i + 1)).filter f = (l.take i).filter f := by
  obtain ⟨hi, rfl⟩ := List.getElem?_eq_some_iff.1 h
  rw [List.take_succ_eq_append_getElem hi, List.filter_append, List.filter_cons, if_neg (by simp [hf])]; simp
theorem filt_len {f : Ping → Bool} {l : List Ping} {i : Nat} : ((l.take i).filter f).length ≤ i := by
  have := List.length_filter_le f (l.take i)
  have := List.length_take_le i l
  omega

theorem en51 : Enters Try.prog 51 := enters_of Try.func51 rfl (by kernel_rfl)
theorem en52 : Enters Try.prog 52 := enters_of Try.func52 rfl (by kernel_rfl)
theorem en53 : Enters Try.prog 53 := enters_of Try.func53 rfl (by kernel_rfl)
theorem en55 : Enters Try.prog 55 := enters_of Try.func55 rfl (by kernel_rfl)

set_option maxRecDepth 100000 in
set_option maxHeartbeats 4000000 in
theorem tickR_ (b : Nat) (aL : Option Addr) (cL : Nat) (aP : Option Addr) (cP : Nat) (T : Tab) (t : Int) (w : World) (hR : RTabAt w b aL cL aP cP T) (ht : t ≤ 9223372036854775807) (hpl : T.pings.length ≤ 1048575) :
    Calls Try.prog 34 #[.pointer (some ⟨b, 0, none⟩), .int .i64 (t)] w (Ret (fun v w' => ∃ aL' cL' aP' cP' a0 c0 a1 c1, v = .tuple #[.slice a0 (tick T t).out.length c0, .slice a1 (tick T t).told.length c1] ∧ RTabAt w' b aL' cL' aP' cP' ((tick T t).T) ∧ OwnSl w' 61 a0 c0 ((tick T t).out) ∧ OwnSl w' 23 a1 c1 ((tick T t).told) ∧ (∀ x, own a0 x → w.heap.size ≤ x) ∧ (∀ x, own a1 x → w.heap.size ≤ x) ∧ (∀ x, own a0 x → ¬ rtabS b aL' aP' x) ∧ (∀ x, own a1 x → ¬ rtabS b aL' aP' x) ∧ (∀ x, own a0 x → ¬ own a1 x) ∧ MovedS w (rtabS b aL aP) (rtabS b aL' aP') ∧ Keeps (rtabS b aL aP) w w')) := by
  have hz0 : ∀ q_, rtabS b aL aP q_ → q_ < w.heap.size → rtabS b aL aP q_ := fun _ h _ => h
  have h1_ := passT_ok hR.ok ht
  obtain ⟨h2_, h3_, h4_⟩ := oldT_ok h1_
  have h5_ := waited_ok _ h2_
  obtain ⟨h6_, h7_, h8_⟩ := waitedT_len h2_
  obtain ⟨h9_, h10_, h11_⟩ := begin_ok h5_
  have e_ : (passT T t).pings = T.pings := rfl
  rw [h4_, e_] at h6_ h7_ h8_
  have h12_ : (oldT (passT T t)).1.pings.length = T.pings.length := by rw [h4_]; rfl
  have hnvp : Nev T.self (passT T t) := pass_nev hR.nev
  have hnvo := (nev_old h1_ hnvp).1
  have hnvw0 := (nev_waited h2_ hnvo).1
  have hnvw : Nev (waitedT (oldT (passT T t)).1).T.self (waitedT (oldT (passT T t)).1).T := by rw [hnvw0.self]; exact hnvw0
  have hn0 := h5_.now0
  have hla := h5_.last0
  have hrq := h5_.req0
  refine calls_run (n := 106) Try.func34 rfl rfl rfl ?_
  refine Run.seq ?_
  refine Run.region ?_
  refine RL.val (x_assignSl rfl) ?_
  refine RL.val (x_assignSl rfl) ?_
  refine RL.nil ?_
  refine Run.seq ?_
  refine Run.region ?_
  refine RL.val (x_moveP rfl) ?_
  refine RL.val (x_moveI rfl) ?_
  refine RL.st rfl <| St1.call (vals := [.pointer (some ⟨b, 0, none⟩), .int .i64 (t)]) en48 rfl (passR_ _ _ _ _ _ T t _ hR (by omega)) ?_
  rintro _ w_5 ⟨aL_1, cL_2, aP_3, cP_4, rfl, hR_6, hm_7, K_8⟩
  have pg_9 : ∀ q_, rtabS b aL_1 aP_3 q_ → q_ < w.heap.size → (rtabS b aL aP) q_ := hm_7.inS hz0 (Nat.le_refl _)
  have K0 := (Keeps.refl (rtabS b aL aP) w).trans K_8 (fun x hlt hx => hz0 x hx hlt)
  clear hm_7 
  refine RL.nil ?_
  refine Run.seq ?_
  refine Run.region ?_
  refine RL.val (x_moveP rfl) ?_
  refine RL.st rfl <| St1.call (vals := [.pointer (some ⟨b, 0, none⟩)]) en51 rfl (oldR_ _ _ _ _ _ (passT T t)  _ hR_6 ) ?_
  rintro _ w_14 ⟨aL_10, cL_11, aP_12, cP_13, a_18, c_19, rfl, hR_15, ho_20, hg_21, pr_22, hm_16, K_17⟩
  have pr_23 : ∀ q_, own a_18 q_ → ¬ rtabS b aL_1 aP_3 q_ := apartNew hg_21 hR_6.own_lt
  have pg_24 : ∀ q_, own a_18 q_ → q_ < w.heap.size → (rtabS b aL aP) q_ := fun q_ h hlt => absurd (Nat.le_trans K0.size (hg_21 q_ h)) (by omega)
  have pw_25 : ∀ q_, own a_18 q_ → w.heap.size ≤ q_ := fun q_ h => Nat.le_trans K0.size (hg_21 q_ h)
  have pg_26 : ∀ q_, rtabS b aL_10 aP_12 q_ → q_ < w.heap.size → (rtabS b aL aP) q_ := hm_16.inS pg_9 K0.size
  replace K0 := K0.trans K_17 (fun x hlt hx => pg_9 x hx hlt)
  clear hm_16 hg_21
  refine RL.val (x_assignSl rfl) ?_
  refine RL.nil ?_
  refine Run.seq ?_
  refine Run.region ?_
  refine RL.val (x_moveP rfl) ?_
  refine RL.st rfl <| St1.call (vals := [.pointer (some ⟨b, 0, none⟩)]) en52 rfl (waitedR_ _ _ _ _ _ ((oldT (passT T t)).1)  _ hR_15 (by omega)) ?_
  rintro _ w_31 ⟨aL_27, cL_28, aP_29, cP_30, a_35, c_36, a_37, c_38, rfl, hR_32, ho_39, ho_40, hg_41, hg_42, pr_43, pr_44, pr_45, hm_33, K_34⟩
  have pr_46 : ∀ q_, own a_35 q_ → ¬ rtabS b aL_10 aP_12 q_ := apartNew hg_41 hR_15.own_lt
  have pr_47 : ∀ q_, own a_35 q_ → ¬ own a_18 q_ := apartNew hg_41 ho_20.own_lt
  have pg_48 : ∀ q_, own a_35 q_ → q_ < w.heap.size → (rtabS b aL aP) q_ := fun q_ h hlt => absurd (Nat.le_trans K0.size (hg_41 q_ h)) (by omega)
  have pw_49 : ∀ q_, own a_35 q_ → w.heap.size ≤ q_ := fun q_ h => Nat.le_trans K0.size (hg_41 q_ h)
  have pr_50 : ∀ q_, own a_37 q_ → ¬ rtabS b aL_10 aP_12 q_ := apartNew hg_42 hR_15.own_lt
  have pr_51 : ∀ q_, own a_37 q_ → ¬ own a_18 q_ := apartNew hg_42 ho_20.own_lt
  have pg_52 : ∀ q_, own a_37 q_ → q_ < w.heap.size → (rtabS b aL aP) q_ := fun q_ h hlt => absurd (Nat.le_trans K0.size (hg_42 q_ h)) (by omega)
  have pw_53 : ∀ q_, own a_37 q_ → w.heap.size ≤ q_ := fun q_ h => Nat.le_trans K0.size (hg_42 q_ h)
  have pr_54 : ∀ q_, rtabS b aL_27 aP_29 q_ → ¬ own a_18 q_ := hm_33.apart (fun q_ h1 h2 => pr_22 q_ h2 h1) ho_20.own_lt
  have pg_55 : ∀ q_, rtabS b aL_27 aP_29 q_ → q_ < w.heap.size → (rtabS b aL aP) q_ := hm_33.inS pg_26 K0.size
  replace ho_20 := ho_20.keepO K_34 pr_22
  replace K0 := K0.trans K_34 (fun x hlt hx => pg_26 x hx hlt)
  clear hm_33 hg_41 hg_42
  refine RL.val (x_moveT rfl) ?_
  refine RL.val (x_extract rfl rfl) ?_
  refine RL.val (x_extract rfl rfl) ?_
  refine RL.val (x_assignSl rfl) ?_
  refine RL.val (x_assignSl rfl) ?_
  refine RL.nil ?_
  refine Run.seq ?_
  refine Run.region ?_
  refine RL.val (x_moveSl rfl) ?_
  refine RL.val (x_moveSl rfl) ?_
  refine RL.st rfl <| St1.append (xs := (oldT (passT T t)).2) (ys := (waitedT ((oldT (passT T t)).1)).told) Try.underlying32 ty23 rfl rfl rfl ho_20 ho_40.sl (by first | omega | (simp only [lr]; omega)) (by decide) ?_
  intro a_56 c_57 w_58 ho_59 K_60 hm_61 hrm_62
  have pr_63 : ∀ q_, own a_56 q_ → ¬ rtabS b aL_27 aP_29 q_ := hm_61.apart (fun q_ h1 h2 => pr_54 q_ h2 h1) hR_32.own_lt
  have pr_64 : ∀ q_, own a_56 q_ → ¬ own a_35 q_ := hm_61.apart (fun q_ h1 h2 => pr_47 q_ h2 h1) ho_39.own_lt
  have pr_65 : ∀ q_, own a_56 q_ → ¬ own a_37 q_ := hm_61.apart (fun q_ h1 h2 => pr_51 q_ h2 h1) ho_40.own_lt
  have pg_66 : ∀ q_, own a_56 q_ → q_ < w.heap.size → (rtabS b aL aP) q_ := hm_61.inS pg_24 K0.size
  have pw_67 : ∀ q_, own a_56 q_ → w.heap.size ≤ q_ := hm_61.ge pw_25 K0.size
  replace hR_32 := hR_32.keepO K_60 pr_54
  replace ho_39 := ho_39.keepO K_60 pr_47
  replace ho_40 := ho_40.keepO K_60 pr_51
  replace K0 := K0.trans K_60 (fun x hlt hx => pg_24 x hx hlt)
  clear hm_61
  clear hrm_62
  refine RL.val (x_assignSl rfl) ?_
  refine RL.nil ?_
  refine Run.seq ?_
  refine Run.seq ?_
  obtain ⟨hb68, hoL68, hoP68, hapL68, hapP68, hapLP68, ok68, nv68⟩ := hR_32
  replace hb68 : Blk w_58 b [.int .i64 (((waitedT ((oldT (passT T t)).1)).T).self), .int .i64 (((waitedT ((oldT (passT T t)).1)).T).now), .slice (aL_27) ((knownL ((waitedT ((oldT (passT T t)).1)).T).l).length) (cL_28), .slice (aP_29) (((waitedT ((oldT (passT T t)).1)).T).pings.length) (cP_30), .int .i64 (((waitedT ((oldT (passT T t)).1)).T).req), .bool (((waitedT ((oldT (passT T t)).1)).T).begun), .int .i64 (((waitedT ((oldT (passT T t)).1)).T).last), .int .i64 (((waitedT ((oldT (passT T t)).1)).T).target)] 94 := hb68
  refine Run.draw' (m := 23) (by kernel_rfl) rfl ?_
  intro w_69 K_70
  replace ho_39 := ho_39.ext K_70
  replace ho_40 := ho_40.ext K_70
  replace ho_59 := ho_59.ext K_70
  replace hb68 := hb68.ext K_70
  replace hoL68 := hoL68.ext K_70
  replace hoP68 := hoP68.ext K_70
  replace K0 := K0.ext K_70
  refine RA.take (v := .pointer (some ⟨b, 0, none⟩)) 0 rfl (by kernel_rfl) rfl (by rintro _ rfl; exact (x_moveP rfl)) ?_
  refine RA.take (v := .pointer (some ⟨b, 0, none⟩)) 1 rfl (by kernel_rfl) rfl (by rintro _ rfl; exact (x_nilCheck rfl)) ?_
  refine RA.take (v := .pointer (some ⟨b, 5, none⟩)) 2 rfl (by kernel_rfl) rfl (by rintro _ rfl; exact (x_fld (o' := 5) Try.underlying94 rfl ty4 rfl rfl rfl)) ?_
  refine RA.take (v := .bool (((waitedT ((oldT (passT T t)).1)).T).begun)) 3 rfl (by kernel_rfl) rfl (by rintro _ rfl; exact (x_ld (v := .bool (((waitedT ((oldT (passT T t)).1)).T).begun)) ty4 rfl rfl (hb68.cl.field (i := 5) rfl))) ?_
  refine RA.take (v := .bool (((waitedT ((oldT (passT T t)).1)).T).begun)) 4 rfl (by kernel_rfl) rfl (by rintro _ rfl; exact (x_moveB rfl)) ?_
  refine RA.gtake (v := .pointer (some ⟨b, 0, none⟩)) 5 rfl (by kernel_rfl) rfl (wantedT rfl rfl rfl rfl) (fun hg => by rintro _ rfl; exact (x_moveP rfl)) ?_
  refine RA.gtake (v := .pointer (some ⟨b, 0, none⟩)) 6 rfl (by kernel_rfl) rfl (wantedT rfl rfl rfl rfl) (fun hg => by rintro _ rfl; exact (x_nilCheck (gvr hg))) ?_
  refine RA.gtake (v := .pointer (some ⟨b, 1, none⟩)) 7 rfl (by kernel_rfl) rfl (wantedT rfl rfl rfl rfl) (fun hg => by rintro _ rfl; exact (x_fld (o' := 1) Try.underlying94 rfl ty3 rfl (gvr hg) rfl)) ?_
  refine RA.gtake (v := .int .i64 (((waitedT ((oldT (passT T t)).1)).T).now)) 8 rfl (by kernel_rfl) rfl (wantedT rfl rfl rfl rfl) (fun hg => by rintro _ rfl; exact (x_ld (v := .int .i64 (((waitedT ((oldT (passT T t)).1)).T).now)) ty3 (gvr hg) rfl (hb68.cl.field (i := 1) rfl))) ?_
  refine RA.gtake (v := .pointer (some ⟨b, 0, none⟩)) 9 rfl (by kernel_rfl) rfl (wantedT rfl rfl rfl rfl) (fun hg => by rintro _ rfl; exact (x_moveP rfl)) ?_
  refine RA.gtake (v := .pointer (some ⟨b, 0, none⟩)) 10 rfl (by kernel_rfl) rfl (wantedT rfl rfl rfl rfl) (fun hg => by rintro _ rfl; exact (x_nilCheck (gvr hg))) ?_
  refine RA.gtake (v := .pointer (some ⟨b, 6, none⟩)) 11 rfl (by kernel_rfl) rfl (wantedT rfl rfl rfl rfl) (fun hg => by rintro _ rfl; exact (x_fld (o' := 6) Try.underlying94 rfl ty3 rfl (gvr hg) rfl)) ?_
  refine RA.gtake (v := .int .i64 (((waitedT ((oldT (passT T t)).1)).T).last)) 12 rfl (by kernel_rfl) rfl (wantedT rfl rfl rfl rfl) (fun hg => by rintro _ rfl; exact (x_ld (v := .int .i64 (((waitedT ((oldT (passT T t)).1)).T).last)) ty3 (gvr hg) rfl (hb68.cl.field (i := 6) rfl))) ?_
  refine RA.gtake (v := .int .i64 ((((waitedT ((oldT (passT T t)).1)).T).now) - (((waitedT ((oldT (passT T t)).1)).T).last))) 13 rfl (by kernel_rfl) rfl (wantedT rfl rfl rfl rfl) (fun hg => by rintro _ rfl; exact (x_sub (gvr hg) (gvr hg) (by omega) (by omega))) ?_
  refine RA.gtake (v := .bool (decide (((((waitedT ((oldT (passT T t)).1)).T).now) - (((waitedT ((oldT (passT T t)).1)).T).last)) < 100))) 14 rfl (by kernel_rfl) rfl (wantedT rfl rfl rfl rfl) (fun hg => by rintro _ rfl; exact (x_ltI (gvr hg) rfl)) ?_
  refine RA.take (v := .bool ((((waitedT ((oldT (passT T t)).1)).T).begun) && (decide (((((waitedT ((oldT (passT T t)).1)).T).now) - (((waitedT ((oldT (passT T t)).1)).T).last)) < 100)))) 15 rfl (by kernel_rfl) rfl (by rintro _ rfl; exact (x_and rfl rfl rfl)) ?_
  refine RA.take (v := .bool ((((waitedT ((oldT (passT T t)).1)).T).begun) && (decide (((((waitedT ((oldT (passT T t)).1)).T).now) - (((waitedT ((oldT (passT T t)).1)).T).last)) < 100)))) 16 rfl (by kernel_rfl) rfl (by rintro _ rfl; exact (x_moveB rfl)) ?_
  refine RA.gtake (v := .pointer (some ⟨b, 0, none⟩)) 17 rfl (by kernel_rfl) rfl (wantedF rfl rfl rfl rfl) (fun hg => by rintro _ rfl; exact (x_moveP rfl)) ?_
  refine RA.gtake (v := .pointer (some ⟨b, 0, none⟩)) 18 rfl (by kernel_rfl) rfl (wantedF rfl rfl rfl rfl) (fun hg => by rintro _ rfl; exact (x_nilCheck (gvr hg))) ?_
  refine RA.gtake (v := .pointer (some ⟨b, 4, none⟩)) 19 rfl (by kernel_rfl) rfl (wantedF rfl rfl rfl rfl) (fun hg => by rintro _ rfl; exact (x_fld (o' := 4) Try.underlying94 rfl ty3 rfl (gvr hg) rfl)) ?_
  refine RA.gtake (v := .int .i64 (((waitedT ((oldT (passT T t)).1)).T).req)) 20 rfl (by kernel_rfl) rfl (wantedF rfl rfl rfl rfl) (fun hg => by rintro _ rfl; exact (x_ld (v := .int .i64 (((waitedT ((oldT (passT T t)).1)).T).req)) ty3 (gvr hg) rfl (hb68.cl.field (i := 4) rfl))) ?_
  refine RA.gtake (v := .bool (decide (1099511627776 ≤ (((waitedT ((oldT (passT T t)).1)).T).req)))) 21 rfl (by kernel_rfl) rfl (wantedF rfl rfl rfl rfl) (fun hg => by rintro _ rfl; exact (x_geI (gvr hg) rfl)) ?_
  refine RA.take (v := .bool (((((waitedT ((oldT (passT T t)).1)).T).begun) && (decide (((((waitedT ((oldT (passT T t)).1)).T).now) - (((waitedT ((oldT (passT T t)).1)).T).last)) < 100))) || (decide (1099511627776 ≤ (((waitedT ((oldT (passT T t)).1)).T).req))))) 22 rfl (by kernel_rfl) rfl (by rintro _ rfl; exact (x_or rfl rfl rfl)) ?_
  refine RA.done (by kernel_rfl) ?_
  refine Run.cond rfl (fun hc45 => ?_) (fun hc45 => ?_)
  · try simp only [br] at hc45
    refine Run.seq ?_
    refine Run.region ?_
    refine RL.val (x_moveSl rfl) ?_
    refine RL.val (x_moveSl rfl) ?_
    refine RL.val (x_assignSl rfl) ?_
    refine RL.val (x_assignSl rfl) ?_
    refine RL.nil ?_
    refine Run.ret2 (v := .slice (a_35) (((waitedT ((oldT (passT T t)).1)).out).length) (c_36)) (x := .slice (a_56) ((((oldT (passT T t)).2) ++ (waitedT ((oldT (passT T t)).1)).told).length) (c_57)) Try.func34 rfl rfl rfl ?_
    obtain ⟨e1, e2, e3⟩ := tick_eq (begin_no hc45)
    rw [List.append_nil] at e2
    dsimp only at e1
    have hR_71 : RTabAt w_69 b aL_27 cL_28 aP_29 cP_30 ((waitedT ((oldT (passT T t)).1)).T) := ⟨hb68, hoL68, hoP68, hapL68, hapP68, hapLP68, ok68, nv68⟩
    have pt_72 : ∀ q_, rtabS b aL_27 aP_29 q_ → ¬ own a_35 q_ := (fun q_ h1 h2 => h1.elim (fun e => (fun h2 => (fun q_ h1 h2 => pr_43 q_ h2 h1) _ (.inl rfl) h2) (e ▸ h2)) (fun h1 => h1.elim (fun h => (fun q_ h1 h2 => (fun q_ h1 h2 => pr_43 q_ h2 h1) q_ (.inr (.inl h1)) h2) q_ h h2) (fun h => (fun q_ h1 h2 => (fun q_ h1 h2 => pr_43 q_ h2 h1) q_ (.inr (.inr h1)) h2) q_ h h2)))
    have pt_73 : ∀ q_, rtabS b aL_27 aP_29 q_ → ¬ own a_37 q_ := (fun q_ h1 h2 => h1.elim (fun e => (fun h2 => (fun q_ h1 h2 => pr_44 q_ h2 h1) _ (.inl rfl) h2) (e ▸ h2)) (fun h1 => h1.elim (fun h => (fun q_ h1 h2 => (fun q_ h1 h2 => pr_44 q_ h2 h1) q_ (.inr (.inl h1)) h2) q_ h h2) (fun h => (fun q_ h1 h2 => (fun q_ h1 h2 => pr_44 q_ h2 h1) q_ (.inr (.inr h1)) h2) q_ h h2)))
    have pt_74 : ∀ q_, rtabS b aL_27 aP_29 q_ → ¬ own a_56 q_ := (fun q_ h1 h2 => h1.elim (fun e => (fun h2 => (fun q_ h1 h2 => pr_63 q_ h2 h1) _ (.inl rfl) h2) (e ▸ h2)) (fun h1 => h1.elim (fun h => (fun q_ h1 h2 => (fun q_ h1 h2 => pr_63 q_ h2 h1) q_ (.inr (.inl h1)) h2) q_ h h2) (fun h => (fun q_ h1 h2 => (fun q_ h1 h2 => pr_63 q_ h2 h1) q_ (.inr (.inr h1)) h2) q_ h h2)))
    have pt_75 : ∀ q_, rtabS b aL_27 aP_29 q_ → q_ < w.heap.size → (rtabS b aL aP) q_ := (fun q_ h1 hlt => h1.elim (fun e => e ▸ (Or.inl rfl)) (fun h1 => h1.elim (fun h => (fun q_ h1 hlt => pg_55 q_ (.inr (.inl h1)) hlt) q_ h hlt) (fun h => (fun q_ h1 hlt => pg_55 q_ (.inr (.inr h1)) hlt) q_ h hlt)))
    clear hb68 hoL68 hoP68
    rw [e1, e2, e3]
    exact ⟨_, rfl, aL_27, cL_28, aP_29, cP_30, a_35, c_36, a_56, c_57, rfl, hR_71, ho_39, ho_59, pw_49, pw_67, (fun q_ h1 h2 => pt_72 q_ h2 h1), (fun q_ h1 h2 => pt_74 q_ h2 h1), (fun q_ h1 h2 => pr_64 q_ h2 h1), rtabMoved' (fun x hx hlt => pt_75 x (.inr (.inl hx)) hlt) (fun x hx hlt => pt_75 x (.inr (.inr hx)) hlt), K0⟩
  · try simp only [br] at hc45
    have hnb : ¬ (((waitedT (oldT (passT T t)).1).T.begun = true ∧ (waitedT (oldT (passT T t)).1).T.now - (waitedT (oldT (passT T t)).1).T.last < 100) ∨ 1099511627776 ≤ (waitedT (oldT (passT T t)).1).T.req) := by
      rintro (e | e)
      · rcases hc45.1 with h | h
        · rw [h] at e; cases e.1
        · omega
      · omega
    refine Run.skip ?_
    refine Run.seq ?_
    refine Run.region ?_
    refine RL.val (x_moveP rfl) ?_
    refine RL.st rfl <| St1.call (vals := [.pointer (some ⟨b, 0, none⟩)]) en53 rfl (targetR_ _ _ _ _ _ ((waitedT ((oldT (passT T t)).1)).T) _ hb68 hoL68.sl hoP68.sl ok68 (by omega)) ?_
    rintro _ w_76 ⟨rfl, K_77⟩
    replace ho_39 := ho_39.ext K_77
    replace ho_40 := ho_40.ext K_77
    replace ho_59 := ho_59.ext K_77
    replace hb68 := hb68.ext K_77
    replace hoL68 := hoL68.ext K_77
    replace hoP68 := hoP68.ext K_77
    replace K0 := K0.ext K_77
    refine RL.val (x_assignI rfl) ?_
    refine RL.nil ?_
    refine Run.seq ?_
    refine Run.seq ?_
    refine Run.region ?_
    refine RL.val (x_moveI rfl) ?_
    refine RL.val (x_ltI rfl rfl) ?_
    refine RL.nil ?_
    refine Run.cond rfl (fun hc51 => ?_) (fun hc51 => ?_)
    · try simp only [br] at hc51
      refine Run.seq ?_
      refine Run.region ?_
      refine RL.val (x_moveSl rfl) ?_
      refine RL.val (x_moveSl rfl) ?_
      refine RL.val (x_assignSl rfl) ?_
      refine RL.val (x_assignSl rfl) ?_
      refine RL.nil ?_
      refine Run.ret2 (v := .slice (a_35) (((waitedT ((oldT (passT T t)).1)).out).length) (c_36)) (x := .slice (a_56) ((((oldT (passT T t)).2) ++ (waitedT ((oldT (passT T t)).1)).told).length) (c_57)) Try.func34 rfl rfl rfl ?_
      obtain ⟨e1, e2, e3⟩ := tick_eq (begin_far hnb hc51)
      rw [List.append_nil] at e2
      dsimp only at e1
      have hR_78 : RTabAt w_76 b aL_27 cL_28 aP_29 cP_30 ((waitedT ((oldT (passT T t)).1)).T) := ⟨hb68, hoL68, hoP68, hapL68, hapP68, hapLP68, ok68, nv68⟩
      have pt_79 : ∀ q_, rtabS b aL_27 aP_29 q_ → ¬ own a_35 q_ := (fun q_ h1 h2 => h1.elim (fun e => (fun h2 => (fun q_ h1 h2 => pr_43 q_ h2 h1) _ (.inl rfl) h2) (e ▸ h2)) (fun h1 => h1.elim (fun h => (fun q_ h1 h2 => (fun q_ h1 h2 => pr_43 q_ h2 h1) q_ (.inr (.inl h1)) h2) q_ h h2) (fun h => (fun q_ h1 h2 => (fun q_ h1 h2 => pr_43 q_ h2 h1) q_ (.inr (.inr h1)) h2) q_ h h2)))
      have pt_80 : ∀ q_, rtabS b aL_27 aP_29 q_ → ¬ own a_37 q_ := (fun q_ h1 h2 => h1.elim (fun e => (fun h2 => (fun q_ h1 h2 => pr_44 q_ h2 h1) _ (.inl rfl) h2) (e ▸ h2)) (fun h1 => h1.elim (fun h => (fun q_ h1 h2 => (fun q_ h1 h2 => pr_44 q_ h2 h1) q_ (.inr (.inl h1)) h2) q_ h h2) (fun h => (fun q_ h1 h2 => (fun q_ h1 h2 => pr_44 q_ h2 h1) q_ (.inr (.inr h1)) h2) q_ h h2)))
      have pt_81 : ∀ q_, rtabS b aL_27 aP_29 q_ → ¬ own a_56 q_ := (fun q_ h1 h2 => h1.elim (fun e => (fun h2 => (fun q_ h1 h2 => pr_63 q_ h2 h1) _ (.inl rfl) h2) (e ▸ h2)) (fun h1 => h1.elim (fun h => (fun q_ h1 h2 => (fun q_ h1 h2 => pr_63 q_ h2 h1) q_ (.inr (.inl h1)) h2) q_ h h2) (fun h => (fun q_ h1 h2 => (fun q_ h1 h2 => pr_63 q_ h2 h1) q_ (.inr (.inr h1)) h2) q_ h h2)))
      have pt_82 : ∀ q_, rtabS b aL_27 aP_29 q_ → q_ < w.heap.size → (rtabS b aL aP) q_ := (fun q_ h1 hlt => h1.elim (fun e => e ▸ (Or.inl rfl)) (fun h1 => h1.elim (fun h => (fun q_ h1 hlt => pg_55 q_ (.inr (.inl h1)) hlt) q_ h hlt) (fun h => (fun q_ h1 hlt => pg_55 q_ (.inr (.inr h1)) hlt) q_ h hlt)))
      clear hb68 hoL68 hoP68
      rw [e1, e2, e3]
      exact ⟨_, rfl, aL_27, cL_28, aP_29, cP_30, a_35, c_36, a_56, c_57, rfl, hR_78, ho_39, ho_59, pw_49, pw_67, (fun q_ h1 h2 => pt_79 q_ h2 h1), (fun q_ h1 h2 => pt_81 q_ h2 h1), (fun q_ h1 h2 => pr_64 q_ h2 h1), rtabMoved' (fun x hx hlt => pt_82 x (.inr (.inl hx)) hlt) (fun x hx hlt => pt_82 x (.inr (.inr hx)) hlt), K0⟩
    · try simp only [br] at hc51
      refine Run.skip ?_
      refine Run.seq ?_
      refine Run.region ?_
      refine RL.val (x_moveP rfl) ?_
      refine RL.val (x_moveP rfl) ?_
      refine RL.val (x_nilCheck rfl) ?_
      refine RL.val (x_fld (o' := 4) Try.underlying94 rfl ty3 rfl rfl rfl) ?_
      refine RL.val (x_ld (v := .int .i64 (((waitedT ((oldT (passT T t)).1)).T).req)) ty3 rfl rfl (hb68.cl.field (i := 4) rfl)) ?_
      refine RL.val (x_add rfl rfl (by omega) (by omega)) ?_
      refine RL.val (x_nilCheck rfl) ?_
      refine RL.val (x_fld (o' := 4) Try.underlying94 rfl ty3 rfl rfl rfl) ?_
      refine RL.st rfl <| St1.store (v := .int .i64 ((((waitedT ((oldT (passT T t)).1)).T).req) + 1)) ty3 rfl rfl rfl (by simp [Value.cells, Value.oneCell']) hb68 (by simp) ?_
      intro w_83 hb68_ K_84
      have hb68' : Blk w_83 b [.int .i64 (((waitedT ((oldT (passT T t)).1)).T).self), .int .i64 (((waitedT ((oldT (passT T t)).1)).T).now), .slice (aL_27) ((knownL ((waitedT ((oldT (passT T t)).1)).T).l).length) (cL_28), .slice (aP_29) (((waitedT ((oldT (passT T t)).1)).T).pings.length) (cP_30), .int .i64 ((((waitedT ((oldT (passT T t)).1)).T).req) + 1), .bool (((waitedT ((oldT (passT T t)).1)).T).begun), .int .i64 (((waitedT ((oldT (passT T t)).1)).T).last), .int .i64 (((waitedT ((oldT (passT T t)).1)).T).target)] 94 := hb68_
      clear hb68_
      replace ho_39 := ho_39.keepO K_84 (fun q_ hq_ eq_ => (fun h2 => (fun q_ h1 h2 => pr_43 q_ h2 h1) _ (.inl rfl) h2) (by simp only [one] at eq_; rw [← eq_]; exact hq_))
      replace ho_40 := ho_40.keepO K_84 (fun q_ hq_ eq_ => (fun h2 => (fun q_ h1 h2 => pr_44 q_ h2 h1) _ (.inl rfl) h2) (by simp only [one] at eq_; rw [← eq_]; exact hq_))
      replace ho_59 := ho_59.keepO K_84 (fun q_ hq_ eq_ => (fun h2 => (fun q_ h1 h2 => pr_63 q_ h2 h1) _ (.inl rfl) h2) (by simp only [one] at eq_; rw [← eq_]; exact hq_))
      replace hoL68 := hoL68.keepO K_84 (fun q_ hq_ eq_ => hapL68 (by simp only [one] at eq_; rw [← eq_]; exact hq_))
      replace hoP68 := hoP68.keepO K_84 (fun q_ hq_ eq_ => hapP68 (by simp only [one] at eq_; rw [← eq_]; exact hq_))
      replace K0 := K0.trans K_84 (fun x _ hx => by simp only [one] at hx; subst hx; exact (Or.inl rfl))
      replace hb68 := hb68'
      clear hb68'
      refine RL.nil ?_
      refine Run.seq ?_
      refine Run.region ?_
      refine RL.val (x_moveP rfl) ?_
      refine RL.val (x_nilCheck rfl) ?_
      refine RL.val (x_fld (o' := 5) Try.underlying94 rfl ty4 rfl rfl rfl) ?_
      refine RL.st rfl <| St1.store (v := .bool (true)) ty4 rfl rfl rfl (by simp [Value.cells, Value.oneCell']) hb68 (by simp) ?_
      intro w_85 hb68_ K_86
      have hb68' : Blk w_85 b [.int .i64 (((waitedT ((oldT (passT T t)).1)).T).self), .int .i64 (((waitedT ((oldT (passT T t)).1)).T).now), .slice (aL_27) ((knownL ((waitedT ((oldT (passT T t)).1)).T).l).length) (cL_28), .slice (aP_29) (((waitedT ((oldT (passT T t)).1)).T).pings.length) (cP_30), .int .i64 ((((waitedT ((oldT (passT T t)).1)).T).req) + 1), .bool (true), .int .i64 (((waitedT ((oldT (passT T t)).1)).T).last), .int .i64 (((waitedT ((oldT (passT T t)).1)).T).target)] 94 := hb68_
      clear hb68_
      replace ho_39 := ho_39.keepO K_86 (fun q_ hq_ eq_ => (fun h2 => (fun q_ h1 h2 => pr_43 q_ h2 h1) _ (.inl rfl) h2) (by simp only [one] at eq_; rw [← eq_]; exact hq_))
      replace ho_40 := ho_40.keepO K_86 (fun q_ hq_ eq_ => (fun h2 => (fun q_ h1 h2 => pr_44 q_ h2 h1) _ (.inl rfl) h2) (by simp only [one] at eq_; rw [← eq_]; exact hq_))
      replace ho_59 := ho_59.keepO K_86 (fun q_ hq_ eq_ => (fun h2 => (fun q_ h1 h2 => pr_63 q_ h2 h1) _ (.inl rfl) h2) (by simp only [one] at eq_; rw [← eq_]; exact hq_))
      replace hoL68 := hoL68.keepO K_86 (fun q_ hq_ eq_ => hapL68 (by simp only [one] at eq_; rw [← eq_]; exact hq_))
      replace hoP68 := hoP68.keepO K_86 (fun q_ hq_ eq_ => hapP68 (by simp only [one] at eq_; rw [← eq_]; exact hq_))
      replace K0 := K0.trans K_86 (fun x _ hx => by simp only [one] at hx; subst hx; exact (Or.inl rfl))
      replace hb68 := hb68'
      clear hb68'
      refine RL.nil ?_
      refine Run.seq ?_
      refine Run.region ?_
      refine RL.val (x_moveP rfl) ?_
      refine RL.val (x_moveP rfl) ?_
      refine RL.val (x_nilCheck rfl) ?_
      refine RL.val (x_fld (o' := 1) Try.underlying94 rfl ty3 rfl rfl rfl) ?_
      refine RL.val (x_ld (v := .int .i64 (((waitedT ((oldT (passT T t)).1)).T).now)) ty3 rfl rfl (hb68.cl.field (i := 1) rfl)) ?_
      refine RL.val (x_nilCheck rfl) ?_
      refine RL.val (x_fld (o' := 6) Try.underlying94 rfl ty3 rfl rfl rfl) ?_
      refine RL.st rfl <| St1.store (v := .int .i64 (((waitedT ((oldT (passT T t)).1)).T).now)) ty3 rfl rfl rfl (by simp [Value.cells, Value.oneCell']) hb68 (by simp) ?_
      intro w_87 hb68_ K_88
      have hb68' : Blk w_87 b [.int .i64 (((waitedT ((oldT (passT T t)).1)).T).self), .int .i64 (((waitedT ((oldT (passT T t)).1)).T).now), .slice (aL_27) ((knownL ((waitedT ((oldT (passT T t)).1)).T).l).length) (cL_28), .slice (aP_29) (((waitedT ((oldT (passT T t)).1)).T).pings.length) (cP_30), .int .i64 ((((waitedT ((oldT (passT T t)).1)).T).req) + 1), .bool (true), .int .i64 (((waitedT ((oldT (passT T t)).1)).T).now), .int .i64 (((waitedT ((oldT (passT T t)).1)).T).target)] 94 := hb68_
      clear hb68_
      replace ho_39 := ho_39.keepO K_88 (fun q_ hq_ eq_ => (fun h2 => (fun q_ h1 h2 => pr_43 q_ h2 h1) _ (.inl rfl) h2) (by simp only [one] at eq_; rw [← eq_]; exact hq_))
      replace ho_40 := ho_40.keepO K_88 (fun q_ hq_ eq_ => (fun h2 => (fun q_ h1 h2 => pr_44 q_ h2 h1) _ (.inl rfl) h2) (by simp only [one] at eq_; rw [← eq_]; exact hq_))
      replace ho_59 := ho_59.keepO K_88 (fun q_ hq_ eq_ => (fun h2 => (fun q_ h1 h2 => pr_63 q_ h2 h1) _ (.inl rfl) h2) (by simp only [one] at eq_; rw [← eq_]; exact hq_))
      replace hoL68 := hoL68.keepO K_88 (fun q_ hq_ eq_ => hapL68 (by simp only [one] at eq_; rw [← eq_]; exact hq_))
      replace hoP68 := hoP68.keepO K_88 (fun q_ hq_ eq_ => hapP68 (by simp only [one] at eq_; rw [← eq_]; exact hq_))
      replace K0 := K0.trans K_88 (fun x _ hx => by simp only [one] at hx; subst hx; exact (Or.inl rfl))
      replace hb68 := hb68'
      clear hb68'
      refine RL.nil ?_
      refine Run.seq ?_
      refine Run.region ?_
      refine RL.val (x_moveP rfl) ?_
      refine RL.val (x_moveI rfl) ?_
      refine RL.val (x_nilCheck rfl) ?_
      refine RL.val (x_fld (o' := 7) Try.underlying94 rfl ty3 rfl rfl rfl) ?_
      refine RL.st rfl <| St1.store (v := .int .i64 (nextT ((waitedT ((oldT (passT T t)).1)).T))) ty3 rfl rfl rfl (by simp [Value.cells, Value.oneCell']) hb68 (by simp) ?_
      intro w_89 hb68_ K_90
      have hb68' : Blk w_89 b [.int .i64 (((waitedT ((oldT (passT T t)).1)).T).self), .int .i64 (((waitedT ((oldT (passT T t)).1)).T).now), .slice (aL_27) ((knownL ((waitedT ((oldT (passT T t)).1)).T).l).length) (cL_28), .slice (aP_29) (((waitedT ((oldT (passT T t)).1)).T).pings.length) (cP_30), .int .i64 ((((waitedT ((oldT (passT T t)).1)).T).req) + 1), .bool (true), .int .i64 (((waitedT ((oldT (passT T t)).1)).T).now), .int .i64 (nextT ((waitedT ((oldT (passT T t)).1)).T))] 94 := hb68_
      clear hb68_
      replace ho_39 := ho_39.keepO K_90 (fun q_ hq_ eq_ => (fun h2 => (fun q_ h1 h2 => pr_43 q_ h2 h1) _ (.inl rfl) h2) (by simp only [one] at eq_; rw [← eq_]; exact hq_))
      replace ho_40 := ho_40.keepO K_90 (fun q_ hq_ eq_ => (fun h2 => (fun q_ h1 h2 => pr_44 q_ h2 h1) _ (.inl rfl) h2) (by simp only [one] at eq_; rw [← eq_]; exact hq_))
      replace ho_59 := ho_59.keepO K_90 (fun q_ hq_ eq_ => (fun h2 => (fun q_ h1 h2 => pr_63 q_ h2 h1) _ (.inl rfl) h2) (by simp only [one] at eq_; rw [← eq_]; exact hq_))
      replace hoL68 := hoL68.keepO K_90 (fun q_ hq_ eq_ => hapL68 (by simp only [one] at eq_; rw [← eq_]; exact hq_))
      replace hoP68 := hoP68.keepO K_90 (fun q_ hq_ eq_ => hapP68 (by simp only [one] at eq_; rw [← eq_]; exact hq_))
      replace K0 := K0.trans K_90 (fun x _ hx => by simp only [one] at hx; subst hx; exact (Or.inl rfl))
      replace hb68 := hb68'
      clear hb68'
      refine RL.nil ?_
      refine Run.seq ?_
      refine Run.drawT [19] (m := 20) (by kernel_rfl) rfl ?_
      intro w_91 K_92
      replace ho_39 := ho_39.ext K_92
      replace ho_40 := ho_40.ext K_92
      replace ho_59 := ho_59.ext K_92
      replace hb68 := hb68.ext K_92
      replace hoL68 := hoL68.ext K_92
      replace hoP68 := hoP68.ext K_92
      replace K0 := K0.ext K_92
      refine ⟨fun w' => Blk w' b [.int .i64 (((waitedT ((oldT (passT T t)).1)).T).self), .int .i64 (((waitedT ((oldT (passT T t)).1)).T).now), .slice (aL_27) ((knownL ((waitedT ((oldT (passT T t)).1)).T).l).length) (cL_28), .slice (aP_29) (((waitedT ((oldT (passT T t)).1)).T).pings.length) (cP_30), .int .i64 ((((waitedT ((oldT (passT T t)).1)).T).req) + 1), .bool (true), .int .i64 (((waitedT ((oldT (passT T t)).1)).T).now), .int .i64 (nextT ((waitedT ((oldT (passT T t)).1)).T))] 94 ∧ True, ?_⟩
      refine RT.takeP (v := .pointer (some ⟨b, 0, none⟩)) 0 rfl (by kernel_rfl) (.inr ⟨hb68, trivial⟩) (fun _ => (x_moveP rfl)) ?_
      refine RT.takeP (v := .pointer (some ⟨b, 0, none⟩)) 1 rfl (by kernel_rfl) (.inr ⟨hb68, trivial⟩) (fun _ => (x_moveP rfl)) ?_
      refine RT.takeP (v := .pointer (some ⟨b, 0, none⟩)) 2 rfl (by kernel_rfl) (.inr ⟨hb68, trivial⟩) (fun _ => (x_nilCheck rfl)) ?_
      refine RT.takeP (v := .pointer (some ⟨b, 3, none⟩)) 3 rfl (by kernel_rfl) (.inr ⟨hb68, trivial⟩) (fun _ => (x_fld (o' := 3) Try.underlying94 rfl ty92 rfl rfl rfl)) ?_
      refine RT.take (v := .slice (aP_29) (((waitedT ((oldT (passT T t)).1)).T).pings.length) (cP_30)) 4 rfl (by kernel_rfl) ⟨hb68, trivial⟩ (by rintro _ ⟨hb68, -⟩; exact (x_ld (v := .slice (aP_29) (((waitedT ((oldT (passT T t)).1)).T).pings.length) (cP_30)) ty92 rfl rfl (hb68.cl.field (i := 3) rfl))) ?_
      refine RT.takeP (v := .int .i64 (nextT ((waitedT ((oldT (passT T t)).1)).T))) 5 rfl (by kernel_rfl) (.inr ⟨hb68, trivial⟩) (fun _ => (x_moveI rfl)) ?_
      refine RT.takeP (v := .pointer (some ⟨b, 0, none⟩)) 6 rfl (by kernel_rfl) (.inr ⟨hb68, trivial⟩) (fun _ => (x_moveP rfl)) ?_
      refine RT.takeP (v := .pointer (some ⟨b, 0, none⟩)) 7 rfl (by kernel_rfl) (.inr ⟨hb68, trivial⟩) (fun _ => (x_nilCheck rfl)) ?_
      refine RT.takeP (v := .pointer (some ⟨b, 4, none⟩)) 8 rfl (by kernel_rfl) (.inr ⟨hb68, trivial⟩) (fun _ => (x_fld (o' := 4) Try.underlying94 rfl ty3 rfl rfl rfl)) ?_
      refine RT.take (v := .int .i64 ((((waitedT ((oldT (passT T t)).1)).T).req) + 1)) 9 rfl (by kernel_rfl) ⟨hb68, trivial⟩ (by rintro _ ⟨hb68, -⟩; exact (x_ld (v := .int .i64 ((((waitedT ((oldT (passT T t)).1)).T).req) + 1)) ty3 rfl rfl (hb68.cl.field (i := 4) rfl))) ?_
      refine RT.takeP (v := .pointer (some ⟨b, 0, none⟩)) 10 rfl (by kernel_rfl) (.inr ⟨hb68, trivial⟩) (fun _ => (x_moveP rfl)) ?_
      refine RT.takeP (v := .pointer (some ⟨b, 0, none⟩)) 11 rfl (by kernel_rfl) (.inr ⟨hb68, trivial⟩) (fun _ => (x_nilCheck rfl)) ?_
      refine RT.takeP (v := .pointer (some ⟨b, 1, none⟩)) 12 rfl (by kernel_rfl) (.inr ⟨hb68, trivial⟩) (fun _ => (x_fld (o' := 1) Try.underlying94 rfl ty3 rfl rfl rfl)) ?_
      refine RT.take (v := .int .i64 (((waitedT ((oldT (passT T t)).1)).T).now)) 13 rfl (by kernel_rfl) ⟨hb68, trivial⟩ (by rintro _ ⟨hb68, -⟩; exact (x_ld (v := .int .i64 (((waitedT ((oldT (passT T t)).1)).T).now)) ty3 rfl rfl (hb68.cl.field (i := 1) rfl))) ?_
      refine RT.takeP (v := .agg #[.int .i64 (nextT ((waitedT ((oldT (passT T t)).1)).T)), .int .i64 ((((waitedT ((oldT (passT T t)).1)).T).req) + 1), .int .i64 (((waitedT ((oldT (passT T t)).1)).T).now), .bool (false)]) 14 rfl (by kernel_rfl) (.inr ⟨hb68, trivial⟩) (fun _ => (x_build (cells := #[.int .i64 (nextT ((waitedT ((oldT (passT T t)).1)).T)), .int .i64 ((((waitedT ((oldT (passT T t)).1)).T).req) + 1), .int .i64 (((waitedT ((oldT (passT T t)).1)).T).now), .bool (false)]) (by kernel_rfl))) ?_
      refine RT.st 15 rfl (by kernel_rfl) rfl <| St1.buildSlice ([(⟨nextT ((waitedT ((oldT (passT T t)).1)).T), (((waitedT ((oldT (passT T t)).1)).T).req) + 1, ((waitedT ((oldT (passT T t)).1)).T).now, false⟩ : Ping)] : List Ping) Try.underlying92 ty98 rfl rfl (by first | decide | (simp [Enc.size])) ?_
      intro b_93 w_94 hl_97 ho_96 K_95
      have pr_98 : ∀ q_, own (some ⟨b_93, 0, none⟩) q_ → ¬ own a_35 q_ := apartNew (ge_new hl_97) ho_39.own_lt
      have pr_99 : ∀ q_, own (some ⟨b_93, 0, none⟩) q_ → ¬ own a_37 q_ := apartNew (ge_new hl_97) ho_40.own_lt
      have pr_100 : ∀ q_, own (some ⟨b_93, 0, none⟩) q_ → ¬ own a_56 q_ := apartNew (ge_new hl_97) ho_59.own_lt
      have pr_101 : ¬ own (some ⟨b_93, 0, none⟩) b := notNew (ge_new hl_97) hb68.lt
      have pr_102 : ∀ q_, own (some ⟨b_93, 0, none⟩) q_ → ¬ own aL_27 q_ := apartNew (ge_new hl_97) hoL68.own_lt
      have pr_103 : ∀ q_, own (some ⟨b_93, 0, none⟩) q_ → ¬ own aP_29 q_ := apartNew (ge_new hl_97) hoP68.own_lt
      have pg_104 : ∀ q_, own (some ⟨b_93, 0, none⟩) q_ → q_ < w.heap.size → (rtabS b aL aP) q_ := fun q_ h hlt => absurd (Nat.le_trans K0.size ((ge_new hl_97) q_ h)) (by omega)
      have pw_105 : ∀ q_, own (some ⟨b_93, 0, none⟩) q_ → w.heap.size ≤ q_ := fun q_ h => Nat.le_trans K0.size ((ge_new hl_97) q_ h)
      clear hl_97
      replace ho_39 := ho_39.ext K_95
      replace ho_40 := ho_40.ext K_95
      replace ho_59 := ho_59.ext K_95
      replace hb68 := hb68.ext K_95
      replace hoL68 := hoL68.ext K_95
      replace hoP68 := hoP68.ext K_95
      replace K0 := K0.ext K_95
      refine ⟨.inr ⟨hb68, trivial⟩, ?_⟩
      refine RT.st 16 rfl (by kernel_rfl) rfl <| St1.append (xs := ((waitedT ((oldT (passT T t)).1)).T).pings) (ys := ([(⟨nextT ((waitedT ((oldT (passT T t)).1)).T), (((waitedT ((oldT (passT T t)).1)).T).req) + 1, ((waitedT ((oldT (passT T t)).1)).T).now, false⟩ : Ping)] : List Ping)) Try.underlying92 ty98 rfl rfl rfl hoP68 ho_96.sl (by first | omega | (simp only [lr]; omega)) (by decide) ?_
      intro a_106 c_107 w_108 ho_109 K_110 hm_111 hrm_112
      have pr_113 : ∀ q_, own a_106 q_ → ¬ own a_35 q_ := hm_111.apart (fun q_ h1 h2 => (fun q_ h1 h2 => pr_43 q_ h2 h1) q_ (.inr (.inr h1)) h2) ho_39.own_lt
      have pr_114 : ∀ q_, own a_106 q_ → ¬ own a_37 q_ := hm_111.apart (fun q_ h1 h2 => (fun q_ h1 h2 => pr_44 q_ h2 h1) q_ (.inr (.inr h1)) h2) ho_40.own_lt
      have pr_115 : ∀ q_, own a_106 q_ → ¬ own a_56 q_ := hm_111.apart (fun q_ h1 h2 => (fun q_ h1 h2 => pr_63 q_ h2 h1) q_ (.inr (.inr h1)) h2) ho_59.own_lt
      have pr_116 : ¬ own a_106 b := hm_111.not hapP68 hb68.lt
      have pr_117 : ∀ q_, own a_106 q_ → ¬ own aL_27 q_ := hm_111.apart (fun q_ h1 h2 => hapLP68 q_ h2 h1) hoL68.own_lt
      have pr_118 : ∀ q_, own a_106 q_ → ¬ own (some ⟨b_93, 0, none⟩) q_ := hm_111.apart (fun q_ h1 h2 => pr_103 q_ h2 h1) ho_96.own_lt
      have pg_119 : ∀ q_, own a_106 q_ → q_ < w.heap.size → (rtabS b aL aP) q_ := hm_111.inS (fun q_ h1 hlt => pg_55 q_ (.inr (.inr h1)) hlt) K0.size
      replace ho_39 := ho_39.keepO K_110 (fun q_ h1 h2 => (fun q_ h1 h2 => (fun q_ h1 h2 => pr_43 q_ h2 h1) q_ (.inr (.inr h1)) h2) q_ h2 h1)
      replace ho_40 := ho_40.keepO K_110 (fun q_ h1 h2 => (fun q_ h1 h2 => (fun q_ h1 h2 => pr_44 q_ h2 h1) q_ (.inr (.inr h1)) h2) q_ h2 h1)
      replace ho_59 := ho_59.keepO K_110 (fun q_ h1 h2 => (fun q_ h1 h2 => (fun q_ h1 h2 => pr_63 q_ h2 h1) q_ (.inr (.inr h1)) h2) q_ h2 h1)
      replace hb68 := hb68.keep K_110 hapP68
      replace hoL68 := hoL68.keepO K_110 hapLP68
      replace ho_96 := ho_96.keepO K_110 pr_103
      replace K0 := K0.trans K_110 (fun x hlt hx => (fun q_ h1 hlt => pg_55 q_ (.inr (.inr h1)) hlt) x hx hlt)
      clear hm_111
      clear hrm_112
      refine ⟨.inr ⟨hb68, trivial⟩, ?_⟩
      refine RT.takeP (v := .pointer (some ⟨b, 0, none⟩)) 17 rfl (by kernel_rfl) (.inr ⟨hb68, trivial⟩) (fun _ => (x_nilCheck rfl)) ?_
      refine RT.takeP (v := .pointer (some ⟨b, 3, none⟩)) 18 rfl (by kernel_rfl) (.inr ⟨hb68, trivial⟩) (fun _ => (x_fld (o' := 3) Try.underlying94 rfl ty92 rfl rfl rfl)) ?_
      refine RT.st 19 rfl (by kernel_rfl) rfl <| St1.store (v := .slice (a_106) (((((waitedT ((oldT (passT T t)).1)).T).pings) ++ ([(⟨nextT ((waitedT ((oldT (passT T t)).1)).T), (((waitedT ((oldT (passT T t)).1)).T).req) + 1, ((waitedT ((oldT (passT T t)).1)).T).now, false⟩ : Ping)] : List Ping)).length) (c_107)) ty92 rfl rfl rfl (by simp [Value.cells, Value.oneCell']) hb68 (by simp) ?_
      intro w_120 hb68_ K_121
      have hb68' : Blk w_120 b [.int .i64 (((waitedT ((oldT (passT T t)).1)).T).self), .int .i64 (((waitedT ((oldT (passT T t)).1)).T).now), .slice (aL_27) ((knownL ((waitedT ((oldT (passT T t)).1)).T).l).length) (cL_28), .slice (a_106) (((((waitedT ((oldT (passT T t)).1)).T).pings) ++ ([(⟨nextT ((waitedT ((oldT (passT T t)).1)).T), (((waitedT ((oldT (passT T t)).1)).T).req) + 1, ((waitedT ((oldT (passT T t)).1)).T).now, false⟩ : Ping)] : List Ping)).length) (c_107), .int .i64 ((((waitedT ((oldT (passT T t)).1)).T).req) + 1), .bool (true), .int .i64 (((waitedT ((oldT (passT T t)).1)).T).now), .int .i64 (nextT ((waitedT ((oldT (passT T t)).1)).T))] 94 := hb68_
      clear hb68_
      replace ho_39 := ho_39.keepO K_121 (fun q_ hq_ eq_ => (fun h2 => (fun q_ h1 h2 => pr_43 q_ h2 h1) _ (.inl rfl) h2) (by simp only [one] at eq_; rw [← eq_]; exact hq_))
      replace ho_40 := ho_40.keepO K_121 (fun q_ hq_ eq_ => (fun h2 => (fun q_ h1 h2 => pr_44 q_ h2 h1) _ (.inl rfl) h2) (by simp only [one] at eq_; rw [← eq_]; exact hq_))
      replace ho_59 := ho_59.keepO K_121 (fun q_ hq_ eq_ => (fun h2 => (fun q_ h1 h2 => pr_63 q_ h2 h1) _ (.inl rfl) h2) (by simp only [one] at eq_; rw [← eq_]; exact hq_))
      replace hoL68 := hoL68.keepO K_121 (fun q_ hq_ eq_ => hapL68 (by simp only [one] at eq_; rw [← eq_]; exact hq_))
      replace ho_96 := ho_96.keepO K_121 (fun q_ hq_ eq_ => pr_101 (by simp only [one] at eq_; rw [← eq_]; exact hq_))
      replace ho_109 := ho_109.keepO K_121 (fun q_ hq_ eq_ => pr_116 (by simp only [one] at eq_; rw [← eq_]; exact hq_))
      replace K0 := K0.trans K_121 (fun x _ hx => by simp only [one] at hx; subst hx; exact (Or.inl rfl))
      replace hb68 := hb68'
      clear hb68'
      refine ⟨.inl (by kernel_rfl), ?_⟩
      refine RT.done (by kernel_rfl) ?_
      refine Run.seq ?_
      have hbo := (begin_ok h5_).1
      have hbn := (nev_begin hnvw).1
      rw [begin_ref hnb (by omega)] at hbo hbn
      dsimp only at hbo hbn
      refine Run.region ?_
      refine RL.val (x_moveSl rfl) ?_
      refine RL.val (x_moveP rfl) ?_
      refine RL.val (x_moveI rfl) ?_
      refine RL.val (x_moveP rfl) ?_
      refine RL.val (x_nilCheck rfl) ?_
      refine RL.val (x_fld (o' := 4) Try.underlying94 rfl ty3 rfl rfl rfl) ?_
      refine RL.val (x_ld (v := .int .i64 ((((waitedT ((oldT (passT T t)).1)).T).req) + 1)) ty3 rfl rfl (hb68.cl.field (i := 4) rfl)) ?_
      refine RL.st rfl <| St1.call (vals := [.pointer (some ⟨b, 0, none⟩), .int .i64 (nextT ((waitedT ((oldT (passT T t)).1)).T)), .int .i64 ((((waitedT ((oldT (passT T t)).1)).T).req) + 1), .int .i64 (-1), .int .i64 (-1)]) en54 rfl (sendR_ _ _ _ _ _ ({ (waitedT ((oldT (passT T t)).1)).T with pings := (((waitedT ((oldT (passT T t)).1)).T).pings) ++ ([(⟨nextT ((waitedT ((oldT (passT T t)).1)).T), (((waitedT ((oldT (passT T t)).1)).T).req) + 1, ((waitedT ((oldT (passT T t)).1)).T).now, false⟩ : Ping)] : List Ping), req := (((waitedT ((oldT (passT T t)).1)).T).req) + 1, begun := true, last := ((waitedT ((oldT (passT T t)).1)).T).now, target := nextT ((waitedT ((oldT (passT T t)).1)).T) }) (nextT ((waitedT ((oldT (passT T t)).1)).T)) ((((waitedT ((oldT (passT T t)).1)).T).req) + 1) (-1) (-1) _ hb68 hoL68.sl ho_109.sl hbo) ?_
      rintro _ w_122 ⟨rfl, K_123⟩
      replace ho_39 := ho_39.ext K_123
      replace ho_40 := ho_40.ext K_123
      replace ho_59 := ho_59.ext K_123
      replace hb68 := hb68.ext K_123
      replace hoL68 := hoL68.ext K_123
      replace ho_96 := ho_96.ext K_123
      replace ho_109 := ho_109.ext K_123
      replace K0 := K0.ext K_123
      refine RL.st rfl <| St1.buildSlice ([mkMsg 6 ({ (waitedT ((oldT (passT T t)).1)).T with pings := (((waitedT ((oldT (passT T t)).1)).T).pings) ++ ([(⟨nextT ((waitedT ((oldT (passT T t)).1)).T), (((waitedT ((oldT (passT T t)).1)).T).req) + 1, ((waitedT ((oldT (passT T t)).1)).T).now, false⟩ : Ping)] : List Ping), req := (((waitedT ((oldT (passT T t)).1)).T).req) + 1, begun := true, last := ((waitedT ((oldT (passT T t)).1)).T).now, target := nextT ((waitedT ((oldT (passT T t)).1)).T) }).self (nextT ((waitedT ((oldT (passT T t)).1)).T)) ((((waitedT ((oldT (passT T t)).1)).T).req) + 1) (-1) (-1)] : List MsgC) Try.underlying34 ty61 rfl rfl (by first | decide | (simp [Enc.size])) ?_
      intro b_124 w_125 hl_128 ho_127 K_126
      have pr_129 : ∀ q_, own (some ⟨b_124, 0, none⟩) q_ → ¬ own a_35 q_ := apartNew (ge_new hl_128) ho_39.own_lt
      have pr_130 : ∀ q_, own (some ⟨b_124, 0, none⟩) q_ → ¬ own a_37 q_ := apartNew (ge_new hl_128) ho_40.own_lt
      have pr_131 : ∀ q_, own (some ⟨b_124, 0, none⟩) q_ → ¬ own a_56 q_ := apartNew (ge_new hl_128) ho_59.own_lt
      have pr_132 : ¬ own (some ⟨b_124, 0, none⟩) b := notNew (ge_new hl_128) hb68.lt
      have pr_133 : ∀ q_, own (some ⟨b_124, 0, none⟩) q_ → ¬ own aL_27 q_ := apartNew (ge_new hl_128) hoL68.own_lt
      have pr_134 : ∀ q_, own (some ⟨b_124, 0, none⟩) q_ → ¬ own (some ⟨b_93, 0, none⟩) q_ := apartNew (ge_new hl_128) ho_96.own_lt
      have pr_135 : ∀ q_, own (some ⟨b_124, 0, none⟩) q_ → ¬ own a_106 q_ := apartNew (ge_new hl_128) ho_109.own_lt
      have pg_136 : ∀ q_, own (some ⟨b_124, 0, none⟩) q_ → q_ < w.heap.size → (rtabS b aL aP) q_ := fun q_ h hlt => absurd (Nat.le_trans K0.size ((ge_new hl_128) q_ h)) (by omega)
      have pw_137 : ∀ q_, own (some ⟨b_124, 0, none⟩) q_ → w.heap.size ≤ q_ := fun q_ h => Nat.le_trans K0.size ((ge_new hl_128) q_ h)
      clear hl_128
      replace ho_39 := ho_39.ext K_126
      replace ho_40 := ho_40.ext K_126
      replace ho_59 := ho_59.ext K_126
      replace hb68 := hb68.ext K_126
      replace hoL68 := hoL68.ext K_126
      replace ho_96 := ho_96.ext K_126
      replace ho_109 := ho_109.ext K_126
      replace K0 := K0.ext K_126
      refine RL.st rfl <| St1.append (xs := (waitedT ((oldT (passT T t)).1)).out) (ys := ([mkMsg 6 ({ (waitedT ((oldT (passT T t)).1)).T with pings := (((waitedT ((oldT (passT T t)).1)).T).pings) ++ ([(⟨nextT ((waitedT ((oldT (passT T t)).1)).T), (((waitedT ((oldT (passT T t)).1)).T).req) + 1, ((waitedT ((oldT (passT T t)).1)).T).now, false⟩ : Ping)] : List Ping), req := (((waitedT ((oldT (passT T t)).1)).T).req) + 1, begun := true, last := ((waitedT ((oldT (passT T t)).1)).T).now, target := nextT ((waitedT ((oldT (passT T t)).1)).T) }).self (nextT ((waitedT ((oldT (passT T t)).1)).T)) ((((waitedT ((oldT (passT T t)).1)).T).req) + 1) (-1) (-1)] : List MsgC)) Try.underlying34 ty61 rfl rfl rfl ho_39 ho_127.sl (by first | omega | (simp only [lr]; omega)) (by decide) ?_
      intro a_138 c_139 w_140 ho_141 K_142 hm_143 hrm_144
      have pr_145 : ∀ q_, own a_138 q_ → ¬ own a_37 q_ := hm_143.apart pr_45 ho_40.own_lt
      have pr_146 : ∀ q_, own a_138 q_ → ¬ own a_56 q_ := hm_143.apart (fun q_ h1 h2 => pr_64 q_ h2 h1) ho_59.own_lt
      have pr_147 : ¬ own a_138 b := hm_143.not (fun h2 => (fun q_ h1 h2 => pr_43 q_ h2 h1) _ (.inl rfl) h2) hb68.lt
      have pr_148 : ∀ q_, own a_138 q_ → ¬ own aL_27 q_ := hm_143.apart (fun q_ h1 h2 => (fun q_ h1 h2 => (fun q_ h1 h2 => pr_43 q_ h2 h1) q_ (.inr (.inl h1)) h2) q_ h2 h1) hoL68.own_lt
      have pr_149 : ∀ q_, own a_138 q_ → ¬ own (some ⟨b_93, 0, none⟩) q_ := hm_143.apart (fun q_ h1 h2 => pr_98 q_ h2 h1) ho_96.own_lt
      have pr_150 : ∀ q_, own a_138 q_ → ¬ own a_106 q_ := hm_143.apart (fun q_ h1 h2 => pr_113 q_ h2 h1) ho_109.own_lt
      have pr_151 : ∀ q_, own a_138 q_ → ¬ own (some ⟨b_124, 0, none⟩) q_ := hm_143.apart (fun q_ h1 h2 => pr_129 q_ h2 h1) ho_127.own_lt
      have pg_152 : ∀ q_, own a_138 q_ → q_ < w.heap.size → (rtabS b aL aP) q_ := hm_143.inS pg_48 K0.size
      have pw_153 : ∀ q_, own a_138 q_ → w.heap.size ≤ q_ := hm_143.ge pw_49 K0.size
      replace ho_40 := ho_40.keepO K_142 (fun q_ h1 h2 => pr_45 q_ h2 h1)
      replace ho_59 := ho_59.keepO K_142 pr_64
      replace hb68 := hb68.keep K_142 (fun h2 => (fun q_ h1 h2 => pr_43 q_ h2 h1) _ (.inl rfl) h2)
      replace hoL68 := hoL68.keepO K_142 (fun q_ h1 h2 => (fun q_ h1 h2 => pr_43 q_ h2 h1) q_ (.inr (.inl h1)) h2)
      replace ho_96 := ho_96.keepO K_142 pr_98
      replace ho_109 := ho_109.keepO K_142 pr_113
      replace ho_127 := ho_127.keepO K_142 pr_129
      replace K0 := K0.trans K_142 (fun x hlt hx => pg_48 x hx hlt)
      clear hm_143
      clear hrm_144
      refine RL.val (x_moveSl rfl) ?_
      refine RL.val (x_assignSl rfl) ?_
      refine RL.val (x_assignSl rfl) ?_
      refine RL.nil ?_
      refine Run.ret2 (v := .slice (a_138) ((((waitedT ((oldT (passT T t)).1)).out) ++ ([mkMsg 6 ({ (waitedT ((oldT (passT T t)).1)).T with pings := (((waitedT ((oldT (passT T t)).1)).T).pings) ++ ([(⟨nextT ((waitedT ((oldT (passT T t)).1)).T), (((waitedT ((oldT (passT T t)).1)).T).req) + 1, ((waitedT ((oldT (passT T t)).1)).T).now, false⟩ : Ping)] : List Ping), req := (((waitedT ((oldT (passT T t)).1)).T).req) + 1, begun := true, last := ((waitedT ((oldT (passT T t)).1)).T).now, target := nextT ((waitedT ((oldT (passT T t)).1)).T) }).self (nextT ((waitedT ((oldT (passT T t)).1)).T)) ((((waitedT ((oldT (passT T t)).1)).T).req) + 1) (-1) (-1)] : List MsgC)).length) (c_139)) (x := .slice (a_56) ((((oldT (passT T t)).2) ++ (waitedT ((oldT (passT T t)).1)).told).length) (c_57)) Try.func34 rfl rfl rfl ?_
      obtain ⟨e1, e2, e3⟩ := tick_eq (begin_ref hnb (by omega))
      dsimp only at e1 e2
      have hR_154 : RTabAt w_140 b aL_27 cL_28 a_106 c_107 ({ (waitedT ((oldT (passT T t)).1)).T with pings := (((waitedT ((oldT (passT T t)).1)).T).pings) ++ ([(⟨nextT ((waitedT ((oldT (passT T t)).1)).T), (((waitedT ((oldT (passT T t)).1)).T).req) + 1, ((waitedT ((oldT (passT T t)).1)).T).now, false⟩ : Ping)] : List Ping), req := (((waitedT ((oldT (passT T t)).1)).T).req) + 1, begun := true, last := ((waitedT ((oldT (passT T t)).1)).T).now, target := nextT ((waitedT ((oldT (passT T t)).1)).T) }) := ⟨hb68, hoL68, ho_109, hapL68, pr_116, (fun q_ h1 h2 => pr_117 q_ h2 h1), hbo, hbn⟩
      have pt_155 : ∀ q_, rtabS b aL_27 a_106 q_ → ¬ own a_37 q_ := (fun q_ h1 h2 => h1.elim (fun e => (fun h2 => (fun q_ h1 h2 => pr_44 q_ h2 h1) _ (.inl rfl) h2) (e ▸ h2)) (fun h1 => h1.elim (fun h => (fun q_ h1 h2 => (fun q_ h1 h2 => pr_44 q_ h2 h1) q_ (.inr (.inl h1)) h2) q_ h h2) (fun h => pr_114 q_ h h2)))
      have pt_156 : ∀ q_, rtabS b aL_27 a_106 q_ → ¬ own a_56 q_ := (fun q_ h1 h2 => h1.elim (fun e => (fun h2 => (fun q_ h1 h2 => pr_63 q_ h2 h1) _ (.inl rfl) h2) (e ▸ h2)) (fun h1 => h1.elim (fun h => (fun q_ h1 h2 => (fun q_ h1 h2 => pr_63 q_ h2 h1) q_ (.inr (.inl h1)) h2) q_ h h2) (fun h => pr_115 q_ h h2)))
      have pt_157 : ∀ q_, rtabS b aL_27 a_106 q_ → ¬ own (some ⟨b_93, 0, none⟩) q_ := (fun q_ h1 h2 => h1.elim (fun e => pr_101 (e ▸ h2)) (fun h1 => h1.elim (fun h => (fun q_ h1 h2 => pr_102 q_ h2 h1) q_ h h2) (fun h => pr_118 q_ h h2)))
      have pt_158 : ∀ q_, rtabS b aL_27 a_106 q_ → ¬ own (some ⟨b_124, 0, none⟩) q_ := (fun q_ h1 h2 => h1.elim (fun e => pr_132 (e ▸ h2)) (fun h1 => h1.elim (fun h => (fun q_ h1 h2 => pr_133 q_ h2 h1) q_ h h2) (fun h => (fun q_ h1 h2 => pr_135 q_ h2 h1) q_ h h2)))
      have pt_159 : ∀ q_, rtabS b aL_27 a_106 q_ → ¬ own a_138 q_ := (fun q_ h1 h2 => h1.elim (fun e => pr_147 (e ▸ h2)) (fun h1 => h1.elim (fun h => (fun q_ h1 h2 => pr_148 q_ h2 h1) q_ h h2) (fun h => (fun q_ h1 h2 => pr_150 q_ h2 h1) q_ h h2)))
      have pt_160 : ∀ q_, rtabS b aL_27 a_106 q_ → q_ < w.heap.size → (rtabS b aL aP) q_ := (fun q_ h1 hlt => h1.elim (fun e => e ▸ (Or.inl rfl)) (fun h1 => h1.elim (fun h => (fun q_ h1 hlt => pg_55 q_ (.inr (.inl h1)) hlt) q_ h hlt) (fun h => pg_119 q_ h hlt)))
      clear hb68 hoL68 ho_109
      rw [e1, e2, e3]
      exact ⟨_, rfl, aL_27, cL_28, a_106, c_107, a_138, c_139, a_56, c_57, rfl, hR_154, ho_141, ho_59, pw_153, pw_67, (fun q_ h1 h2 => pt_159 q_ h2 h1), (fun q_ h1 h2 => pt_156 q_ h2 h1), pr_146, rtabMoved' (fun x hx hlt => pt_160 x (.inr (.inl hx)) hlt) (fun x hx hlt => pt_160 x (.inr (.inr hx)) hlt), K0⟩

set_option maxRecDepth 100000 in
set_option maxHeartbeats 4000000 in
theorem newR_ (n : Int) (w : World) :
    Calls Try.prog 32 #[.int .i64 (n)] w (Ret (fun v w' => ((n < 0 ∨ 8 ≤ n) ∧ v = .tuple #[.pointer none, .int .i64 1] ∧ Ext w w') ∨ ∃ b aL cL, (0 ≤ n ∧ n < 8) ∧ v = .tuple #[.pointer (some ⟨b, 0, none⟩), .int .i64 0] ∧ RTabAt w' b aL cL none 0 (newT n) ∧ (∀ x, rtabS b aL none x → w.heap.size ≤ x) ∧ Ext w w')) := by
  refine calls_run (n := 17) Try.func32 rfl rfl rfl ?_
  refine Run.seq ?_
  refine Run.region ?_
  refine RL.val (x_assignP rfl) ?_
  refine RL.val (x_assignI rfl) ?_
  refine RL.nil ?_
  refine Run.seq ?_
  refine Run.seq ?_
  refine Run.region ?_
  refine RL.val (x_moveI rfl) ?_
  refine RL.val (x_ltI rfl rfl) ?_
  refine RL.val (x_moveB rfl) ?_
  refine RL.gval (wantedF rfl rfl rfl rfl) (fun hg => (x_moveI rfl)) ?_
  refine RL.gval (wantedF rfl rfl rfl rfl) (fun hg => (x_geI (gvr hg) rfl)) ?_
  refine RL.val (x_or rfl rfl rfl) ?_
  refine RL.nil ?_
  refine Run.cond rfl (fun hc9 => ?_) (fun hc9 => ?_)
  · try simp only [br] at hc9
    refine Run.seq ?_
    refine Run.region ?_
    refine RL.val (x_assignP rfl) ?_
    refine RL.val (x_assignI rfl) ?_
    refine RL.nil ?_
    refine Run.ret2 (v := .pointer none) (x := .int .i64 (1)) Try.func32 rfl rfl rfl ?_
    exact ⟨_, rfl, .inl ⟨hc9, rfl, Keeps.refl _ w⟩⟩
  · try simp only [br] at hc9
    refine Run.skip ?_
    refine Run.seq ?_
    refine Run.region ?_
    refine RL.val (x_moveI rfl) ?_
    refine RL.val (x_moveI rfl) ?_
    refine RL.val (x_build (cells := #[.int .i64 (n), .int .i64 (0), .int .i64 (1)]) (by kernel_rfl)) ?_
    refine RL.val (x_build (cells := #[.int .i64 (n), .int .i64 (0), .int .i64 (1), .int .i64 (0)]) (by kernel_rfl)) ?_
    refine RL.st rfl <| St1.buildSlice ([(⟨(⟨n, 0, 1⟩ : Peer), 0⟩ : KnownM)] : List KnownM) Try.underlying91 ty90 rfl rfl (by first | decide | (simp [Enc.size])) ?_
    intro b_1 w_2 hl_5 ho_4 K_3
    have pg_6 : ∀ q_, own (some ⟨b_1, 0, none⟩) q_ → w.heap.size ≤ q_ := fun q_ h => Nat.le_trans (Nat.le_refl _) ((ge_new hl_5) q_ h)
    clear hl_5
    have K0 := (K_3 : Ext w _)
    refine RL.val (x_build (cells := #[.int .i64 (n), .int .i64 (0), .slice (some ⟨b_1, 0, none⟩) (([(⟨(⟨n, 0, 1⟩ : Peer), 0⟩ : KnownM)] : List KnownM).length) (([(⟨(⟨n, 0, 1⟩ : Peer), 0⟩ : KnownM)] : List KnownM).length), .slice (none) (0) (0), .int .i64 (0), .bool (false), .int .i64 (0), .int .i64 (-1)]) (by kernel_rfl)) ?_
    refine RL.st rfl <| St1.box (v := .agg #[.int .i64 (n), .int .i64 (0), .slice (some ⟨b_1, 0, none⟩) (([(⟨(⟨n, 0, 1⟩ : Peer), 0⟩ : KnownM)] : List KnownM).length) (([(⟨(⟨n, 0, 1⟩ : Peer), 0⟩ : KnownM)] : List KnownM).length), .slice (none) (0) (0), .int .i64 (0), .bool (false), .int .i64 (0), .int .i64 (-1)]) rfl ?_
    intro b_7 w_8 hl_11 hb_10 K_9
    replace hb_10 : Blk w_8 b_7 [.int .i64 (n), .int .i64 (0), .slice (some ⟨b_1, 0, none⟩) (([(⟨(⟨n, 0, 1⟩ : Peer), 0⟩ : KnownM)] : List KnownM).length) (([(⟨(⟨n, 0, 1⟩ : Peer), 0⟩ : KnownM)] : List KnownM).length), .slice (none) (0) (0), .int .i64 (0), .bool (false), .int .i64 (0), .int .i64 (-1)] 94 := hb_10
    have pr_12 : ¬ own (some ⟨b_1, 0, none⟩) b_7 := fun h => absurd (ho_4.own_lt _ h) (by omega)
    have : w.heap.size ≤ b_7 := Nat.le_trans K0.size hl_11
    clear hl_11
    replace ho_4 := ho_4.ext K_9
    replace K0 := K0.ext K_9
    refine RL.val (x_assignP rfl) ?_
    refine RL.val (x_assignI rfl) ?_
    refine RL.nil ?_
    refine Run.ret2 (v := .pointer (some ⟨b_7, 0, none⟩)) (x := .int .i64 (0)) Try.func32 rfl rfl rfl ?_
    have ho_13 := OwnSl.nil (α := Ping) w_8 98
    have eL_15 : ([(⟨(⟨n, 0, 1⟩ : Peer), 0⟩ : KnownM)] : List KnownM) = knownL (newT n).l := (known_new (by omega)).symm
    rw [eL_15] at hb_10 ho_4
    have hR_14 : RTabAt w_8 b_7 (some ⟨b_1, 0, none⟩) ((knownL (newT n).l).length) none 0 (newT n) := ⟨hb_10, ho_4, ho_13, pr_12, (own_none b_7), (fun q_ h1 h2 => (fun q_ h1 _ => own_none q_ h1) q_ h2 h1), (newT_ok (by omega)), (nev_new (n := n) (by omega))⟩
    have pt_16 : ∀ q_, rtabS b_7 (some ⟨b_1, 0, none⟩) none q_ → w.heap.size ≤ q_ := (fun q_ h1 => h1.elim (fun e => by omega) (fun h1 => h1.elim (fun h => pg_6 q_ h) (fun h => (fun q_ h1 => absurd h1 (own_none q_)) q_ h)))
    clear hb_10 ho_4 ho_13
    exact ⟨_, rfl, .inr ⟨b_7, some ⟨b_1, 0, none⟩, (knownL (newT n).l).length, by omega, rfl, hR_14, pt_16, K0⟩⟩

set_option maxRecDepth 100000 in
set_option maxHeartbeats 4000000 in
theorem onR_ (b : Nat) (aL : Option Addr) (cL : Nat) (aP : Option Addr) (cP : Nat) (T : Tab) (m : MsgC) (t : Int) (w : World) (hR : RTabAt w b aL cL aP cP T) (ht : t ≤ 9223372036854775807) (hpl : T.pings.length ≤ 1048576) :
    Calls Try.prog 35 #[.pointer (some ⟨b, 0, none⟩), .agg #[.int .i64 ((m).kind), .int .i64 ((m).frm), .int .i64 ((m).to), .int .i64 ((m).req), .string ((m).key), .slice ((m).entries.a) ((m).entries.len) ((m).entries.cap), .slice ((m).marks.a) ((m).marks.len) ((m).marks.cap), .slice ((m).cloud.a) ((m).cloud.len) ((m).cloud.cap), .int .i64 ((m).owner), .int .i64 ((m).part), .int .i64 ((m).n), .int .i64 ((m).rparts), .int .i64 ((m).rcopies), .int .i64 ((m).rspots), .slice ((m).members.a) ((m).members.len) ((m).members.cap), .slice ((m).peers.a) ((m).peers.len) ((m).peers.cap), .slice ((m).sums.a) ((m).sums.len) ((m).sums.cap)], .int .i64 (t)] w (Ret (fun v w' => ∃ aL' cL' aP' cP' a0 c0 a1 c1, v = .tuple #[.slice a0 (on T m t).out.length c0, .slice a1 (on T m t).told.length c1] ∧ RTabAt w' b aL' cL' aP' cP' ((on T m t).T) ∧ OwnSl w' 61 a0 c0 ((on T m t).out) ∧ OwnSl w' 23 a1 c1 ((on T m t).told) ∧ (∀ x, own a0 x → w.heap.size ≤ x) ∧ (∀ x, own a1 x → w.heap.size ≤ x) ∧ (∀ x, own a0 x → ¬ rtabS b aL' aP' x) ∧ (∀ x, own a1 x → ¬ rtabS b aL' aP' x) ∧ (∀ x, own a0 x → ¬ own a1 x) ∧ MovedS w (rtabS b aL aP) (rtabS b aL' aP') ∧ Keeps (rtabS b aL aP) w w')) := by
  have hz0 : ∀ q_, rtabS b aL aP q_ → q_ < w.heap.size → rtabS b aL aP q_ := fun _ h _ => h
  have h1_ := passT_ok hR.ok ht
  have e_ : (passT T t).pings = T.pings := rfl
  have e2_ : (passT T t).self = T.self := rfl
  have hpl1 : (passT T t).pings.length ≤ 1048576 := hpl
  have hpl2 : (learnT (passT T t) ⟨m.frm, 0, 1⟩).pings.length ≤ 1048576 := hpl
  refine calls_run (n := 181) Try.func35 rfl rfl rfl ?_
  refine Run.seq ?_
  refine Run.region ?_
  refine RL.st rfl <| St1.box (v := .agg #[.int .i64 ((m).kind), .int .i64 ((m).frm), .int .i64 ((m).to), .int .i64 ((m).req), .string ((m).key), .slice ((m).entries.a) ((m).entries.len) ((m).entries.cap), .slice ((m).marks.a) ((m).marks.len) ((m).marks.cap), .slice ((m).cloud.a) ((m).cloud.len) ((m).cloud.cap), .int .i64 ((m).owner), .int .i64 ((m).part), .int .i64 ((m).n), .int .i64 ((m).rparts), .int .i64 ((m).rcopies), .int .i64 ((m).rspots), .slice ((m).members.a) ((m).members.len) ((m).members.cap), .slice ((m).peers.a) ((m).peers.len) ((m).peers.cap), .slice ((m).sums.a) ((m).sums.len) ((m).sums.cap)]) rfl ?_
  intro b_1 w_2 hl_5 hb_4 K_3
  replace hb_4 : Blk w_2 b_1 [.int .i64 ((m).kind), .int .i64 ((m).frm), .int .i64 ((m).to), .int .i64 ((m).req), .string ((m).key), .slice ((m).entries.a) ((m).entries.len) ((m).entries.cap), .slice ((m).marks.a) ((m).marks.len) ((m).marks.cap), .slice ((m).cloud.a) ((m).cloud.len) ((m).cloud.cap), .int .i64 ((m).owner), .int .i64 ((m).part), .int .i64 ((m).n), .int .i64 ((m).rparts), .int .i64 ((m).rcopies), .int .i64 ((m).rspots), .slice ((m).members.a) ((m).members.len) ((m).members.cap), .slice ((m).peers.a) ((m).peers.len) ((m).peers.cap), .slice ((m).sums.a) ((m).sums.len) ((m).sums.cap)] 61 := hb_4
  have pr_6 : ¬ rtabS b aL aP b_1 := fun h => absurd (hR.own_lt _ h) (by omega)
  have : w.heap.size ≤ b_1 := hl_5
  clear hl_5
  replace hR := hR.ext K_3
  have K0 := (K_3 : Ext w _).to (S := (rtabS b aL aP))
  refine RL.val (x_assignSl rfl) ?_
  refine RL.val (x_assignSl rfl) ?_
  refine RL.nil ?_
  refine Run.seq ?_
  refine Run.region ?_
  refine RL.val (x_moveP rfl) ?_
  refine RL.val (x_moveI rfl) ?_
  refine RL.st rfl <| St1.call (vals := [.pointer (some ⟨b, 0, none⟩), .int .i64 (t)]) en48 rfl (passR_ _ _ _ _ _ T t _ hR (by omega)) ?_
  rintro _ w_11 ⟨aL_7, cL_8, aP_9, cP_10, rfl, hR_12, hm_13, K_14⟩
  have pr_15 : ¬ rtabS b aL_7 aP_9 b_1 := hm_13.not pr_6 hb_4.lt
  have pg_16 : ∀ q_, rtabS b aL_7 aP_9 q_ → q_ < w.heap.size → (rtabS b aL aP) q_ := hm_13.inS hz0 K0.size
  replace hb_4 := hb_4.keep K_14 pr_6
  replace K0 := K0.trans K_14 (fun x hlt hx => hz0 x hx hlt)
  clear hm_13 
  refine RL.nil ?_
  refine Run.seq ?_
  refine Run.seq ?_
  obtain ⟨hb17, hoL17, hoP17, hapL17, hapP17, hapLP17, ok17, nv17⟩ := hR_12
  replace hb17 : Blk w_11 b [.int .i64 ((passT T t).self), .int .i64 ((passT T t).now), .slice (aL_7) ((knownL (passT T t).l).length) (cL_8), .slice (aP_9) ((passT T t).pings.length) (cP_10), .int .i64 ((passT T t).req), .bool ((passT T t).begun), .int .i64 ((passT T t).last), .int .i64 ((passT T t).target)] 94 := hb17
  have ne_18 : b_1 ≠ b := fun e => pr_15 (.inl e)
  refine Run.drawT [] (m := 23) (by kernel_rfl) rfl ?_
  intro w_19 K_20
  replace hb_4 := hb_4.ext K_20
  replace hb17 := hb17.ext K_20
  replace hoL17 := hoL17.ext K_20
  replace hoP17 := hoP17.ext K_20
  replace K0 := K0.ext K_20
  refine ⟨fun w' => Blk w' b_1 [.int .i64 ((m).kind), .int .i64 ((m).frm), .int .i64 ((m).to), .int .i64 ((m).req), .string ((m).key), .slice ((m).entries.a) ((m).entries.len) ((m).entries.cap), .slice ((m).marks.a) ((m).marks.len) ((m).marks.cap), .slice ((m).cloud.a) ((m).cloud.len) ((m).cloud.cap), .int .i64 ((m).owner), .int .i64 ((m).part), .int .i64 ((m).n), .int .i64 ((m).rparts), .int .i64 ((m).rcopies), .int .i64 ((m).rspots), .slice ((m).members.a) ((m).members.len) ((m).members.cap), .slice ((m).peers.a) ((m).peers.len) ((m).peers.cap), .slice ((m).sums.a) ((m).sums.len) ((m).sums.cap)] 61 ∧ Blk w' b [.int .i64 ((passT T t).self), .int .i64 ((passT T t).now), .slice (aL_7) ((knownL (passT T t).l).length) (cL_8), .slice (aP_9) ((passT T t).pings.length) (cP_10), .int .i64 ((passT T t).req), .bool ((passT T t).begun), .int .i64 ((passT T t).last), .int .i64 ((passT T t).target)] 94 ∧ True, ?_⟩
  refine RT.takeP (v := .pointer (some ⟨b_1, 0, none⟩)) 0 rfl (by kernel_rfl) (.inr ⟨hb_4, hb17, trivial⟩) (fun _ => (x_fld (o' := 0) Try.underlying61 rfl ty3 rfl rfl rfl)) ?_
  refine RT.take (v := .int .i64 ((m).kind)) 1 rfl (by kernel_rfl) ⟨hb_4, hb17, trivial⟩ (by rintro _ ⟨hb_4, hb17, -⟩; exact (x_ld (v := .int .i64 ((m).kind)) ty3 rfl rfl (hb_4.cl.field (i := 0) rfl))) ?_
  refine RT.takeP (v := .bool (((m).kind) != 6)) 2 rfl (by kernel_rfl) (.inr ⟨hb_4, hb17, trivial⟩) (fun _ => (x_neI rfl rfl)) ?_
  refine RT.takeP (v := .bool (((m).kind) != 6)) 3 rfl (by kernel_rfl) (.inr ⟨hb_4, hb17, trivial⟩) (fun _ => (x_moveB rfl)) ?_
  refine RT.gtakeP (v := .pointer (some ⟨b_1, 0, none⟩)) 4 rfl (by kernel_rfl) (.inr ⟨hb_4, hb17, trivial⟩) (wantedT rfl rfl rfl rfl) (fun hg _ => (x_fld (o' := 0) Try.underlying61 rfl ty3 rfl rfl rfl)) ?_
  refine RT.gtake (v := .int .i64 ((m).kind)) 5 rfl (by kernel_rfl) ⟨hb_4, hb17, trivial⟩ (wantedT rfl rfl rfl rfl) (fun hg => by rintro _ ⟨hb_4, hb17, -⟩; exact (x_ld (v := .int .i64 ((m).kind)) ty3 (gvr hg) rfl (hb_4.cl.field (i := 0) rfl))) ?_
  refine RT.gtakeP (v := .bool (((m).kind) != 7)) 6 rfl (by kernel_rfl) (.inr ⟨hb_4, hb17, trivial⟩) (wantedT rfl rfl rfl rfl) (fun hg _ => (x_neI (gvr hg) rfl)) ?_
  refine RT.takeP (v := .bool ((((m).kind) != 6) && (((m).kind) != 7))) 7 rfl (by kernel_rfl) (.inr ⟨hb_4, hb17, trivial⟩) (fun _ => (x_and rfl rfl rfl)) ?_
  refine RT.takeP (v := .bool ((((m).kind) != 6) && (((m).kind) != 7))) 8 rfl (by kernel_rfl) (.inr ⟨hb_4, hb17, trivial⟩) (fun _ => (x_moveB rfl)) ?_
  refine RT.gtakeP (v := .pointer (some ⟨b_1, 1, none⟩)) 9 rfl (by kernel_rfl) (.inr ⟨hb_4, hb17, trivial⟩) (wantedF rfl rfl rfl rfl) (fun hg _ => (x_fld (o' := 1) Try.underlying61 rfl ty3 rfl rfl rfl)) ?_
  refine RT.gtake (v := .int .i64 ((m).frm)) 10 rfl (by kernel_rfl) ⟨hb_4, hb17, trivial⟩ (wantedF rfl rfl rfl rfl) (fun hg => by rintro _ ⟨hb_4, hb17, -⟩; exact (x_ld (v := .int .i64 ((m).frm)) ty3 (gvr hg) rfl (hb_4.cl.field (i := 1) rfl))) ?_
  refine RT.gcall (vals := [.int .i64 ((m).frm)]) 11 rfl (by kernel_rfl) (wantedF rfl rfl rfl rfl) en55 (fun hg => (mcons (gvr hg) mnil)) (fun hg => (node_ ((m).frm) _)) ?_
  intro w_21 K_22
  replace hb_4 := hb_4.ext K_22
  replace hb17 := hb17.ext K_22
  replace hoL17 := hoL17.ext K_22
  replace hoP17 := hoP17.ext K_22
  replace K0 := K0.ext K_22
  refine ⟨.inr ⟨hb_4, hb17, trivial⟩, ?_⟩
  refine RT.gtakeP (v := .bool (!(decide (0 ≤ ((m).frm)) && decide (((m).frm) < 8)))) 12 rfl (by kernel_rfl) (.inr ⟨hb_4, hb17, trivial⟩) (wantedF rfl rfl rfl rfl) (fun hg _ => (x_not (gvr hg))) ?_
  refine RT.takeP (v := .bool (((((m).kind) != 6) && (((m).kind) != 7)) || (!(decide (0 ≤ ((m).frm)) && decide (((m).frm) < 8))))) 13 rfl (by kernel_rfl) (.inr ⟨hb_4, hb17, trivial⟩) (fun _ => (x_or rfl rfl rfl)) ?_
  refine RT.takeP (v := .bool (((((m).kind) != 6) && (((m).kind) != 7)) || (!(decide (0 ≤ ((m).frm)) && decide (((m).frm) < 8))))) 14 rfl (by kernel_rfl) (.inr ⟨hb_4, hb17, trivial⟩) (fun _ => (x_moveB rfl)) ?_
  refine RT.gtakeP (v := .pointer (some ⟨b_1, 1, none⟩)) 15 rfl (by kernel_rfl) (.inr ⟨hb_4, hb17, trivial⟩) (wantedF rfl rfl rfl rfl) (fun hg _ => (x_fld (o' := 1) Try.underlying61 rfl ty3 rfl rfl rfl)) ?_
  refine RT.gtake (v := .int .i64 ((m).frm)) 16 rfl (by kernel_rfl) ⟨hb_4, hb17, trivial⟩ (wantedF rfl rfl rfl rfl) (fun hg => by rintro _ ⟨hb_4, hb17, -⟩; exact (x_ld (v := .int .i64 ((m).frm)) ty3 (gvr hg) rfl (hb_4.cl.field (i := 1) rfl))) ?_
  refine RT.gtakeP (v := .pointer (some ⟨b, 0, none⟩)) 17 rfl (by kernel_rfl) (.inr ⟨hb_4, hb17, trivial⟩) (wantedF rfl rfl rfl rfl) (fun hg _ => (x_moveP rfl)) ?_
  refine RT.gtakeP (v := .pointer (some ⟨b, 0, none⟩)) 18 rfl (by kernel_rfl) (.inr ⟨hb_4, hb17, trivial⟩) (wantedF rfl rfl rfl rfl) (fun hg _ => (x_nilCheck (gvr hg))) ?_
  refine RT.gtakeP (v := .pointer (some ⟨b, 0, none⟩)) 19 rfl (by kernel_rfl) (.inr ⟨hb_4, hb17, trivial⟩) (wantedF rfl rfl rfl rfl) (fun hg _ => (x_fld (o' := 0) Try.underlying94 rfl ty3 rfl (gvr hg) rfl)) ?_
  refine RT.gtake (v := .int .i64 ((passT T t).self)) 20 rfl (by kernel_rfl) ⟨hb_4, hb17, trivial⟩ (wantedF rfl rfl rfl rfl) (fun hg => by rintro _ ⟨hb_4, hb17, -⟩; exact (x_ld (v := .int .i64 ((passT T t).self)) ty3 (gvr hg) rfl (hb17.cl.field (i := 0) rfl))) ?_
  refine RT.gtakeP (v := .bool (((m).frm) == ((passT T t).self))) 21 rfl (by kernel_rfl) (.inr ⟨hb_4, hb17, trivial⟩) (wantedF rfl rfl rfl rfl) (fun hg _ => (x_eqI (gvr hg) (gvr hg))) ?_
  refine RT.takeP (v := .bool ((((((m).kind) != 6) && (((m).kind) != 7)) || (!(decide (0 ≤ ((m).frm)) && decide (((m).frm) < 8)))) || (((m).frm) == ((passT T t).self)))) 22 rfl (by kernel_rfl) (.inr ⟨hb_4, hb17, trivial⟩) (fun _ => (x_or rfl rfl rfl)) ?_
  refine RT.done (by kernel_rfl) ?_
  refine Run.cond rfl (fun hc38 => ?_) (fun hc38 => ?_)
  · try simp only [br] at hc38
    refine Run.seq ?_
    refine Run.region ?_
    refine RL.val (x_assignSl rfl) ?_
    refine RL.val (x_assignSl rfl) ?_
    refine RL.nil ?_
    refine Run.ret2 (v := .slice (none) (0) (0)) (x := .slice (none) (0) (0)) Try.func35 rfl rfl rfl ?_
    have ho_23 := OwnSl.nil (α := MsgC) w_21 61
    have ho_24 := OwnSl.nil (α := Peer) w_21 23
    have hR_25 : RTabAt w_21 b aL_7 cL_8 aP_9 cP_10 (passT T t) := ⟨hb17, hoL17, hoP17, hapL17, hapP17, hapLP17, ok17, nv17⟩
    have pt_26 : ¬ rtabS b aL_7 aP_9 b_1 := (fun h1 => h1.elim (fun e => absurd e (by omega)) (fun h1 => h1.elim (fun h => (fun h1 => pr_15 (.inr (.inl h1))) h) (fun h => (fun h1 => pr_15 (.inr (.inr h1))) h)))
    have pt_27 : ∀ q_, rtabS b aL_7 aP_9 q_ → ¬ own none q_ := (fun q_ h1 h2 => h1.elim (fun e => (own_none b) (e ▸ h2)) (fun h1 => h1.elim (fun h => (fun q_ h1 h2 => (fun q_ h1 _ => own_none q_ h1) q_ h2 h1) q_ h h2) (fun h => (fun q_ h1 h2 => (fun q_ h1 _ => own_none q_ h1) q_ h2 h1) q_ h h2)))
    have pt_28 : ∀ q_, rtabS b aL_7 aP_9 q_ → ¬ own none q_ := (fun q_ h1 h2 => h1.elim (fun e => (own_none b) (e ▸ h2)) (fun h1 => h1.elim (fun h => (fun q_ h1 h2 => (fun q_ h1 _ => own_none q_ h1) q_ h2 h1) q_ h h2) (fun h => (fun q_ h1 h2 => (fun q_ h1 _ => own_none q_ h1) q_ h2 h1) q_ h h2)))
    have pt_29 : ∀ q_, rtabS b aL_7 aP_9 q_ → q_ < w.heap.size → (rtabS b aL aP) q_ := (fun q_ h1 hlt => h1.elim (fun e => e ▸ (Or.inl rfl)) (fun h1 => h1.elim (fun h => (fun q_ h1 hlt => pg_16 q_ (.inr (.inl h1)) hlt) q_ h hlt) (fun h => (fun q_ h1 hlt => pg_16 q_ (.inr (.inr h1)) hlt) q_ h hlt)))
    clear hb17 hoL17 hoP17
    have e := on_no (t := t) (by omega : (((m.kind ≠ 6 ∧ m.kind ≠ 7) ∨ m.frm < 0) ∨ 8 ≤ m.frm) ∨ m.frm = T.self)
    have e1 : (on T m t).T = passT T t := by rw [e]
    have e2 : (on T m t).out = ([] : List MsgC) := by rw [e]
    have e3 : (on T m t).told = ([] : List Peer) := by rw [e]; try rfl
    rw [e1, e2, e3]
    exact ⟨_, rfl, aL_7, cL_8, aP_9, cP_10, none, 0, none, 0, rfl, hR_25, ho_23, ho_24, (fun q_ h1 => absurd h1 (own_none q_)), (fun q_ h1 => absurd h1 (own_none q_)), (fun q_ h1 h2 => pt_27 q_ h2 h1), (fun q_ h1 h2 => pt_28 q_ h2 h1), (fun q_ h1 _ => own_none q_ h1), rtabMoved' (fun x hx hlt => pt_29 x (.inr (.inl hx)) hlt) (fun x hx hlt => pt_29 x (.inr (.inr hx)) hlt), K0⟩
  · try simp only [br] at hc38
    have hno : ¬ ((((m.kind ≠ 6 ∧ m.kind ≠ 7) ∨ m.frm < 0) ∨ 8 ≤ m.frm) ∨ m.frm = T.self) := by omega
    refine Run.skip ?_
    refine Run.seq ?_
    refine Run.region ?_
    refine RL.val (x_assignSl rfl) ?_
    refine RL.nil ?_
    refine Run.seq ?_
    refine Run.seq ?_
    refine Run.region ?_
    refine RL.val (x_moveP rfl) ?_
    refine RL.val (x_fld (o' := 1) Try.underlying61 rfl ty3 rfl rfl rfl) ?_
    refine RL.val (x_ld (v := .int .i64 ((m).frm)) ty3 rfl rfl (hb_4.cl.field (i := 1) rfl)) ?_
    refine RL.st rfl <| St1.call (vals := [.pointer (some ⟨b, 0, none⟩), .int .i64 ((m).frm)]) en49 rfl (findR_ _ _ _ _ _ (passT T t) ((m).frm) _ hb17 hoL17.sl hoP17.sl ok17) ?_
    rintro _ w_30 ⟨rfl, K_31⟩
    replace hb_4 := hb_4.ext K_31
    replace hb17 := hb17.ext K_31
    replace hoL17 := hoL17.ext K_31
    replace hoP17 := hoP17.ext K_31
    replace K0 := K0.ext K_31
    refine RL.val (x_ltI rfl rfl) ?_
    refine RL.nil ?_
    refine Run.cond rfl (fun hc43 => ?_) (fun hc43 => ?_)
    · try simp only [br] at hc43
      obtain ⟨k, hk, hks⟩ := find_neg h1_ (by omega) hc43
      refine Run.seq ?_
      refine Run.region ?_
      refine RL.val (x_fld (o' := 1) Try.underlying61 rfl ty3 rfl rfl rfl) ?_
      refine RL.val (x_ld (v := .int .i64 ((m).frm)) ty3 rfl rfl (hb_4.cl.field (i := 1) rfl)) ?_
      refine RL.val (x_build (cells := #[.int .i64 ((m).frm), .int .i64 (0), .int .i64 (1)]) (by kernel_rfl)) ?_
      refine RL.st rfl <| St1.alloc ty23 ?_
      intro b_32 w_33 hl_36 hb_35 K_34
      replace hb_35 : Blk w_33 b_32 [.int .i64 (0), .int .i64 (0), .int .i64 (0)] 23 := hb_35
      have ne_37 : b_1 < b_32 := Nat.lt_of_lt_of_le hb_4.lt hl_36
      have ne_38 : b < b_32 := Nat.lt_of_lt_of_le hb17.lt hl_36
      have pr_39 : ¬ own aL_7 b_32 := fun h => absurd (hoL17.own_lt _ h) (by omega)
      have pr_40 : ¬ own aP_9 b_32 := fun h => absurd (hoP17.own_lt _ h) (by omega)
      have : w.heap.size ≤ b_32 := Nat.le_trans K0.size hl_36
      clear hl_36
      replace hb_4 := hb_4.ext K_34
      replace hb17 := hb17.ext K_34
      replace hoL17 := hoL17.ext K_34
      replace hoP17 := hoP17.ext K_34
      replace K0 := K0.ext K_34
      refine RL.st rfl <| St1.store (v := .agg #[.int .i64 ((m).frm), .int .i64 (0), .int .i64 (1)]) ty23 rfl rfl rfl (by simp [Value.cells, Value.oneCell']) hb_35 (by simp) ?_
      intro w_41 hb_35_ K_42
      have hb_35' : Blk w_41 b_32 [.int .i64 ((m).frm), .int .i64 (0), .int .i64 (1)] 23 := hb_35_
      clear hb_35_
      replace hb_4 := hb_4.keep K_42 (by simp only [one]; omega)
      replace hb17 := hb17.keep K_42 (by simp only [one]; omega)
      replace hoL17 := hoL17.keepO K_42 (fun q_ hq_ eq_ => pr_39 (by simp only [one] at eq_; rw [← eq_]; exact hq_))
      replace hoP17 := hoP17.keepO K_42 (fun q_ hq_ eq_ => pr_40 (by simp only [one] at eq_; rw [← eq_]; exact hq_))
      replace K0 := K0.trans K_42 (fun x hlt hx => absurd hlt (by simp only [one] at hx; omega))
      replace hb_35 := hb_35'
      clear hb_35'
      refine RL.nil ?_
      refine Run.seq ?_
      refine Run.region ?_
      refine RL.val (x_moveP rfl) ?_
      refine RL.val (x_lds (cs := #[.int .i64 ((m).frm), .int .i64 (0), .int .i64 (1)]) ty23 rfl rfl (hb_35.cl.drop 0 3)) ?_
      have hR_43 : RTabAt w_41 b aL_7 cL_8 aP_9 cP_10 (passT T t) := ⟨hb17, hoL17, hoP17, hapL17, hapP17, hapLP17, ok17, nv17⟩
      have pt_44 : ¬ rtabS b aL_7 aP_9 b_1 := (fun h1 => h1.elim (fun e => absurd e (by omega)) (fun h1 => h1.elim (fun h => (fun h1 => pr_15 (.inr (.inl h1))) h) (fun h => (fun h1 => pr_15 (.inr (.inr h1))) h)))
      have pt_45 : ¬ rtabS b aL_7 aP_9 b_32 := (fun h1 => h1.elim (fun e => absurd e (by omega)) (fun h1 => h1.elim (fun h => pr_39 h) (fun h => pr_40 h)))
      have pt_46 : ∀ q_, rtabS b aL_7 aP_9 q_ → q_ < w.heap.size → (rtabS b aL aP) q_ := (fun q_ h1 hlt => h1.elim (fun e => e ▸ (Or.inl rfl)) (fun h1 => h1.elim (fun h => (fun q_ h1 hlt => pg_16 q_ (.inr (.inl h1)) hlt) q_ h hlt) (fun h => (fun q_ h1 hlt => pg_16 q_ (.inr (.inr h1)) hlt) q_ h hlt)))
      clear hb17 hoL17 hoP17
      refine RL.st rfl <| St1.call (vals := [.pointer (some ⟨b, 0, none⟩), .agg #[.int .i64 ((m).frm), .int .i64 (0), .int .i64 (1)]]) en50 rfl (learnR_ _ _ _ _ _ (passT T t) (⟨(m).frm, 0, 1⟩ : Peer) _ hR_43 (by first | omega | (simp only; omega)) (by first | omega | (simp only; omega)) (by simp only; omega)) ?_
      rintro _ w_51 ⟨aL_47, cL_48, aP_49, cP_50, rfl, hR_52, hm_53, K_54⟩
      have pr_55 : ¬ rtabS b aL_47 aP_49 b_1 := hm_53.not pt_44 hb_4.lt
      have pr_56 : ¬ rtabS b aL_47 aP_49 b_32 := hm_53.not pt_45 hb_35.lt
      have pg_57 : ∀ q_, rtabS b aL_47 aP_49 q_ → q_ < w.heap.size → (rtabS b aL aP) q_ := hm_53.inS pt_46 K0.size
      replace hb_4 := hb_4.keep K_54 pt_44
      replace hb_35 := hb_35.keep K_54 pt_45
      replace K0 := K0.trans K_54 (fun x hlt hx => pt_46 x hx hlt)
      clear hm_53 
      refine RL.nil ?_
      refine Run.region ?_
      refine RL.val (x_moveSl rfl) ?_
      refine RL.val (x_lds (cs := #[.int .i64 ((m).frm), .int .i64 (0), .int .i64 (1)]) ty23 rfl rfl (hb_35.cl.drop 0 3)) ?_
      refine RL.st rfl <| St1.buildSlice ([(⟨(m).frm, 0, 1⟩ : Peer)] : List Peer) Try.underlying32 ty23 rfl rfl (by first | decide | (simp [Enc.size])) ?_
      intro b_58 w_59 hl_62 ho_61 K_60
      have pr_63 : ¬ own (some ⟨b_58, 0, none⟩) b_1 := notNew (ge_new hl_62) hb_4.lt
      have pr_64 : ¬ own (some ⟨b_58, 0, none⟩) b_32 := notNew (ge_new hl_62) hb_35.lt
      have pr_65 : ∀ q_, own (some ⟨b_58, 0, none⟩) q_ → ¬ rtabS b aL_47 aP_49 q_ := apartNew (ge_new hl_62) hR_52.own_lt
      have pg_66 : ∀ q_, own (some ⟨b_58, 0, none⟩) q_ → q_ < w.heap.size → (rtabS b aL aP) q_ := fun q_ h hlt => absurd (Nat.le_trans K0.size ((ge_new hl_62) q_ h)) (by omega)
      have pw_67 : ∀ q_, own (some ⟨b_58, 0, none⟩) q_ → w.heap.size ≤ q_ := fun q_ h => Nat.le_trans K0.size ((ge_new hl_62) q_ h)
      clear hl_62
      replace hb_4 := hb_4.ext K_60
      replace hb_35 := hb_35.ext K_60
      replace hR_52 := hR_52.ext K_60
      replace K0 := K0.ext K_60
      have ho_68 := OwnSl.nil (α := Peer) w_59 23
      refine RL.st rfl <| St1.append (xs := ([] : List Peer)) (ys := ([(⟨(m).frm, 0, 1⟩ : Peer)] : List Peer)) Try.underlying32 ty23 rfl rfl rfl ho_68 ho_61.sl (by first | omega | (simp only [lr]; omega)) (by decide) ?_
      intro a_69 c_70 w_71 ho_72 K_73 hm_74 hrm_75
      have pr_76 : ¬ own a_69 b_1 := hm_74.not (own_none b_1) hb_4.lt
      have pr_77 : ¬ own a_69 b_32 := hm_74.not (own_none b_32) hb_35.lt
      have pr_78 : ∀ q_, own a_69 q_ → ¬ rtabS b aL_47 aP_49 q_ := hm_74.apart (fun q_ h1 _ => own_none q_ h1) hR_52.own_lt
      have pr_79 : ∀ q_, own a_69 q_ → ¬ own (some ⟨b_58, 0, none⟩) q_ := hm_74.apart (fun q_ h1 _ => own_none q_ h1) ho_61.own_lt
      have pg_80 : ∀ q_, own a_69 q_ → q_ < w.heap.size → (rtabS b aL aP) q_ := hm_74.inS (fun q_ h1 _ => absurd h1 (own_none q_)) K0.size
      have pw_81 : ∀ q_, own a_69 q_ → w.heap.size ≤ q_ := hm_74.ge (fun q_ h1 => absurd h1 (own_none q_)) K0.size
      replace hb_4 := hb_4.keep K_73 (own_none b_1)
      replace hb_35 := hb_35.keep K_73 (own_none b_32)
      replace hR_52 := hR_52.keepO K_73 (fun q_ h1 h2 => (fun q_ h1 _ => own_none q_ h1) q_ h2 h1)
      replace ho_61 := ho_61.keepO K_73 (fun q_ h1 h2 => (fun q_ h1 _ => own_none q_ h1) q_ h2 h1)
      replace K0 := K0.trans K_73 (fun x hlt hx => (fun q_ h1 _ => absurd h1 (own_none q_)) x hx hlt)
      clear hm_74
      clear hrm_75
      refine RL.val (x_assignSl rfl) ?_
      refine RL.nil ?_
      refine Run.seq ?_
      refine Run.seq ?_
      obtain ⟨hb82, hoL82, hoP82, hapL82, hapP82, hapLP82, ok82, nv82⟩ := hR_52
      replace hb82 : Blk w_71 b [.int .i64 ((learnT (passT T t) (⟨(m).frm, 0, 1⟩ : Peer)).self), .int .i64 ((learnT (passT T t) (⟨(m).frm, 0, 1⟩ : Peer)).now), .slice (aL_47) ((knownL (learnT (passT T t) (⟨(m).frm, 0, 1⟩ : Peer)).l).length) (cL_48), .slice (aP_49) ((learnT (passT T t) (⟨(m).frm, 0, 1⟩ : Peer)).pings.length) (cP_50), .int .i64 ((learnT (passT T t) (⟨(m).frm, 0, 1⟩ : Peer)).req), .bool ((learnT (passT T t) (⟨(m).frm, 0, 1⟩ : Peer)).begun), .int .i64 ((learnT (passT T t) (⟨(m).frm, 0, 1⟩ : Peer)).last), .int .i64 ((learnT (passT T t) (⟨(m).frm, 0, 1⟩ : Peer)).target)] 94 := hb82
      have ne_83 : b_1 ≠ b := fun e => pr_55 (.inl e)
      have ne_84 : b_32 ≠ b := fun e => pr_56 (.inl e)
      refine Run.region ?_
      refine RL.val (x_fld (o' := 0) Try.underlying61 rfl ty3 rfl rfl rfl) ?_
      refine RL.val (x_ld (v := .int .i64 ((m).kind)) ty3 rfl rfl (hb_4.cl.field (i := 0) rfl)) ?_
      refine RL.val (x_eqI rfl rfl) ?_
      refine RL.nil ?_
      refine Run.cond rfl (fun hc56 => ?_) (fun hc56 => ?_)
      · try simp only [br] at hc56
        refine Run.seq ?_
        refine Run.seq ?_
        refine Run.draw' (m := 12) (by kernel_rfl) rfl ?_
        intro w_85 K_86
        replace hb_4 := hb_4.ext K_86
        replace hb_35 := hb_35.ext K_86
        replace ho_61 := ho_61.ext K_86
        replace ho_72 := ho_72.ext K_86
        replace hb82 := hb82.ext K_86
        replace hoL82 := hoL82.ext K_86
        replace hoP82 := hoP82.ext K_86
        replace K0 := K0.ext K_86
        refine RA.take (v := .pointer (some ⟨b_1, 8, none⟩)) 0 rfl (by kernel_rfl) rfl (by rintro _ rfl; exact (x_fld (o' := 8) Try.underlying61 rfl ty3 rfl rfl rfl)) ?_
        refine RA.take (v := .int .i64 ((m).owner)) 1 rfl (by kernel_rfl) rfl (by rintro _ rfl; exact (x_ld (v := .int .i64 ((m).owner)) ty3 rfl rfl (hb_4.cl.field (i := 8) rfl))) ?_
        refine RA.take (v := .bool (((m).owner) == (-1))) 2 rfl (by kernel_rfl) rfl (by rintro _ rfl; exact (x_eqI rfl rfl)) ?_
        refine RA.take (v := .bool (((m).owner) == (-1))) 3 rfl (by kernel_rfl) rfl (by rintro _ rfl; exact (x_moveB rfl)) ?_
        refine RA.gtake (v := .pointer (some ⟨b_1, 8, none⟩)) 4 rfl (by kernel_rfl) rfl (wantedF rfl rfl rfl rfl) (fun hg => by rintro _ rfl; exact (x_fld (o' := 8) Try.underlying61 rfl ty3 rfl rfl rfl)) ?_
        refine RA.gtake (v := .int .i64 ((m).owner)) 5 rfl (by kernel_rfl) rfl (wantedF rfl rfl rfl rfl) (fun hg => by rintro _ rfl; exact (x_ld (v := .int .i64 ((m).owner)) ty3 (gvr hg) rfl (hb_4.cl.field (i := 8) rfl))) ?_
        refine RA.gtake (v := .pointer (some ⟨b, 0, none⟩)) 6 rfl (by kernel_rfl) rfl (wantedF rfl rfl rfl rfl) (fun hg => by rintro _ rfl; exact (x_moveP rfl)) ?_
        refine RA.gtake (v := .pointer (some ⟨b, 0, none⟩)) 7 rfl (by kernel_rfl) rfl (wantedF rfl rfl rfl rfl) (fun hg => by rintro _ rfl; exact (x_nilCheck (gvr hg))) ?_
        refine RA.gtake (v := .pointer (some ⟨b, 0, none⟩)) 8 rfl (by kernel_rfl) rfl (wantedF rfl rfl rfl rfl) (fun hg => by rintro _ rfl; exact (x_fld (o' := 0) Try.underlying94 rfl ty3 rfl (gvr hg) rfl)) ?_
        refine RA.gtake (v := .int .i64 ((learnT (passT T t) (⟨(m).frm, 0, 1⟩ : Peer)).self)) 9 rfl (by kernel_rfl) rfl (wantedF rfl rfl rfl rfl) (fun hg => by rintro _ rfl; exact (x_ld (v := .int .i64 ((learnT (passT T t) (⟨(m).frm, 0, 1⟩ : Peer)).self)) ty3 (gvr hg) rfl (hb82.cl.field (i := 0) rfl))) ?_
        refine RA.gtake (v := .bool (((m).owner) == ((learnT (passT T t) (⟨(m).frm, 0, 1⟩ : Peer)).self))) 10 rfl (by kernel_rfl) rfl (wantedF rfl rfl rfl rfl) (fun hg => by rintro _ rfl; exact (x_eqI (gvr hg) (gvr hg))) ?_
        refine RA.take (v := .bool ((((m).owner) == (-1)) || (((m).owner) == ((learnT (passT T t) (⟨(m).frm, 0, 1⟩ : Peer)).self)))) 11 rfl (by kernel_rfl) rfl (by rintro _ rfl; exact (x_or rfl rfl rfl)) ?_
        refine RA.done (by kernel_rfl) ?_
        refine Run.cond rfl (fun hc68 => ?_) (fun hc68 => ?_)
        · try simp only [br] at hc68
          refine Run.seq ?_
          refine Run.region ?_
          refine RL.val (x_fld (o' := 10) Try.underlying61 rfl ty3 rfl rfl rfl) ?_
          refine RL.val (x_ld (v := .int .i64 ((m).n)) ty3 rfl rfl (hb_4.cl.field (i := 10) rfl)) ?_
          refine RL.val (x_assignI rfl) ?_
          refine RL.nil ?_
          refine Run.seq ?_
          refine Run.seq ?_
          refine Run.region ?_
          refine RL.val (x_moveI rfl) ?_
          refine RL.st rfl <| St1.call (vals := [.int .i64 ((m).n)]) en55 rfl (node_ ((m).n) _) ?_
          rintro _ w_87 ⟨rfl, K_88⟩
          replace hb_4 := hb_4.ext K_88
          replace hb_35 := hb_35.ext K_88
          replace ho_61 := ho_61.ext K_88
          replace ho_72 := ho_72.ext K_88
          replace hb82 := hb82.ext K_88
          replace hoL82 := hoL82.ext K_88
          replace hoP82 := hoP82.ext K_88
          replace K0 := K0.ext K_88
          refine RL.val (x_not rfl) ?_
          refine RL.nil ?_
          refine Run.cond rfl (fun hc73 => ?_) (fun hc73 => ?_)
          · try simp only [br] at hc73
            refine Run.region ?_
            refine RL.val (x_assignI rfl) ?_
            refine RL.nil ?_
            refine Run.seq ?_
            refine Run.drawT [] (m := 18) (by kernel_rfl) rfl ?_
            intro w_89 K_90
            replace hb_4 := hb_4.ext K_90
            replace hb_35 := hb_35.ext K_90
            replace ho_61 := ho_61.ext K_90
            replace ho_72 := ho_72.ext K_90
            replace hb82 := hb82.ext K_90
            replace hoL82 := hoL82.ext K_90
            replace hoP82 := hoP82.ext K_90
            replace K0 := K0.ext K_90
            refine ⟨fun w' => Blk w' b_1 [.int .i64 ((m).kind), .int .i64 ((m).frm), .int .i64 ((m).to), .int .i64 ((m).req), .string ((m).key), .slice ((m).entries.a) ((m).entries.len) ((m).entries.cap), .slice ((m).marks.a) ((m).marks.len) ((m).marks.cap), .slice ((m).cloud.a) ((m).cloud.len) ((m).cloud.cap), .int .i64 ((m).owner), .int .i64 ((m).part), .int .i64 ((m).n), .int .i64 ((m).rparts), .int .i64 ((m).rcopies), .int .i64 ((m).rspots), .slice ((m).members.a) ((m).members.len) ((m).members.cap), .slice ((m).peers.a) ((m).peers.len) ((m).peers.cap), .slice ((m).sums.a) ((m).sums.len) ((m).sums.cap)] 61 ∧ Blk w' b [.int .i64 ((learnT (passT T t) (⟨(m).frm, 0, 1⟩ : Peer)).self), .int .i64 ((learnT (passT T t) (⟨(m).frm, 0, 1⟩ : Peer)).now), .slice (aL_47) ((knownL (learnT (passT T t) (⟨(m).frm, 0, 1⟩ : Peer)).l).length) (cL_48), .slice (aP_49) ((learnT (passT T t) (⟨(m).frm, 0, 1⟩ : Peer)).pings.length) (cP_50), .int .i64 ((learnT (passT T t) (⟨(m).frm, 0, 1⟩ : Peer)).req), .bool ((learnT (passT T t) (⟨(m).frm, 0, 1⟩ : Peer)).begun), .int .i64 ((learnT (passT T t) (⟨(m).frm, 0, 1⟩ : Peer)).last), .int .i64 ((learnT (passT T t) (⟨(m).frm, 0, 1⟩ : Peer)).target)] 94 ∧ True, ?_⟩
            refine RT.takeP (v := .pointer (some ⟨b, 0, none⟩)) 0 rfl (by kernel_rfl) (.inr ⟨hb_4, hb82, trivial⟩) (fun _ => (x_moveP rfl)) ?_
            refine RT.takeP (v := .pointer (some ⟨b, 0, none⟩)) 1 rfl (by kernel_rfl) (.inr ⟨hb_4, hb82, trivial⟩) (fun _ => (x_nilCheck rfl)) ?_
            refine RT.takeP (v := .pointer (some ⟨b, 0, none⟩)) 2 rfl (by kernel_rfl) (.inr ⟨hb_4, hb82, trivial⟩) (fun _ => (x_fld (o' := 0) Try.underlying94 rfl ty3 rfl rfl rfl)) ?_
            refine RT.take (v := .int .i64 ((learnT (passT T t) (⟨(m).frm, 0, 1⟩ : Peer)).self)) 3 rfl (by kernel_rfl) ⟨hb_4, hb82, trivial⟩ (by rintro _ ⟨hb_4, hb82, -⟩; exact (x_ld (v := .int .i64 ((learnT (passT T t) (⟨(m).frm, 0, 1⟩ : Peer)).self)) ty3 rfl rfl (hb82.cl.field (i := 0) rfl))) ?_
            refine RT.takeP (v := .pointer (some ⟨b_1, 1, none⟩)) 4 rfl (by kernel_rfl) (.inr ⟨hb_4, hb82, trivial⟩) (fun _ => (x_fld (o' := 1) Try.underlying61 rfl ty3 rfl rfl rfl)) ?_
            refine RT.take (v := .int .i64 ((m).frm)) 5 rfl (by kernel_rfl) ⟨hb_4, hb82, trivial⟩ (by rintro _ ⟨hb_4, hb82, -⟩; exact (x_ld (v := .int .i64 ((m).frm)) ty3 rfl rfl (hb_4.cl.field (i := 1) rfl))) ?_
            refine RT.takeP (v := .pointer (some ⟨b_1, 3, none⟩)) 6 rfl (by kernel_rfl) (.inr ⟨hb_4, hb82, trivial⟩) (fun _ => (x_fld (o' := 3) Try.underlying61 rfl ty3 rfl rfl rfl)) ?_
            refine RT.take (v := .int .i64 ((m).req)) 7 rfl (by kernel_rfl) ⟨hb_4, hb82, trivial⟩ (by rintro _ ⟨hb_4, hb82, -⟩; exact (x_ld (v := .int .i64 ((m).req)) ty3 rfl rfl (hb_4.cl.field (i := 3) rfl))) ?_
            refine RT.takeP (v := .pointer (some ⟨b, 0, none⟩)) 8 rfl (by kernel_rfl) (.inr ⟨hb_4, hb82, trivial⟩) (fun _ => (x_moveP rfl)) ?_
            refine RT.takeP (v := .pointer (some ⟨b, 0, none⟩)) 9 rfl (by kernel_rfl) (.inr ⟨hb_4, hb82, trivial⟩) (fun _ => (x_nilCheck rfl)) ?_
            refine RT.takeP (v := .pointer (some ⟨b, 0, none⟩)) 10 rfl (by kernel_rfl) (.inr ⟨hb_4, hb82, trivial⟩) (fun _ => (x_fld (o' := 0) Try.underlying94 rfl ty3 rfl rfl rfl)) ?_
            refine RT.take (v := .int .i64 ((learnT (passT T t) (⟨(m).frm, 0, 1⟩ : Peer)).self)) 11 rfl (by kernel_rfl) ⟨hb_4, hb82, trivial⟩ (by rintro _ ⟨hb_4, hb82, -⟩; exact (x_ld (v := .int .i64 ((learnT (passT T t) (⟨(m).frm, 0, 1⟩ : Peer)).self)) ty3 rfl rfl (hb82.cl.field (i := 0) rfl))) ?_
            refine RT.takeP (v := .int .i64 (-1)) 12 rfl (by kernel_rfl) (.inr ⟨hb_4, hb82, trivial⟩) (fun _ => (x_moveI rfl)) ?_
            refine RT.takeP (v := .agg #[.int .i64 (7), .int .i64 ((learnT (passT T t) (⟨(m).frm, 0, 1⟩ : Peer)).self), .int .i64 ((m).frm), .int .i64 ((m).req), .string (⟨#[]⟩), .slice (none) (0) (0), .slice (none) (0) (0), .slice (none) (0) (0), .int .i64 ((learnT (passT T t) (⟨(m).frm, 0, 1⟩ : Peer)).self), .int .i64 (0), .int .i64 (-1), .int .i64 (0), .int .i64 (0), .int .i64 (0), .slice (none) (0) (0), .slice (none) (0) (0), .slice (none) (0) (0)]) 13 rfl (by kernel_rfl) (.inr ⟨hb_4, hb82, trivial⟩) (fun _ => (x_build (cells := #[.int .i64 (7), .int .i64 ((learnT (passT T t) (⟨(m).frm, 0, 1⟩ : Peer)).self), .int .i64 ((m).frm), .int .i64 ((m).req), .string (⟨#[]⟩), .slice (none) (0) (0), .slice (none) (0) (0), .slice (none) (0) (0), .int .i64 ((learnT (passT T t) (⟨(m).frm, 0, 1⟩ : Peer)).self), .int .i64 (0), .int .i64 (-1), .int .i64 (0), .int .i64 (0), .int .i64 (0), .slice (none) (0) (0), .slice (none) (0) (0), .slice (none) (0) (0)]) (by kernel_rfl))) ?_
            refine RT.takeP (v := .slice (a_69) ((([] : List Peer) ++ ([(⟨(m).frm, 0, 1⟩ : Peer)] : List Peer)).length) (c_70)) 15 rfl (by kernel_rfl) (.inr ⟨hb_4, hb82, trivial⟩) (fun _ => (x_moveSl rfl)) ?_
            refine RT.st 14 rfl (by kernel_rfl) rfl <| St1.buildSlice ([(⟨7, (learnT (passT T t) (⟨(m).frm, 0, 1⟩ : Peer)).self, (m).frm, (m).req, ⟨#[]⟩, ⟨none, 0, 0⟩, ⟨none, 0, 0⟩, ⟨none, 0, 0⟩, (learnT (passT T t) (⟨(m).frm, 0, 1⟩ : Peer)).self, 0, -1, 0, 0, 0, ⟨none, 0, 0⟩, ⟨none, 0, 0⟩, ⟨none, 0, 0⟩⟩ : MsgC)] : List MsgC) Try.underlying34 ty61 rfl rfl (by first | decide | (simp [Enc.size])) ?_
            intro b_91 w_92 hl_95 ho_94 K_93
            have pr_96 : ¬ own (some ⟨b_91, 0, none⟩) b_1 := notNew (ge_new hl_95) hb_4.lt
            have pr_97 : ¬ own (some ⟨b_91, 0, none⟩) b_32 := notNew (ge_new hl_95) hb_35.lt
            have pr_98 : ∀ q_, own (some ⟨b_91, 0, none⟩) q_ → ¬ own (some ⟨b_58, 0, none⟩) q_ := apartNew (ge_new hl_95) ho_61.own_lt
            have pr_99 : ∀ q_, own (some ⟨b_91, 0, none⟩) q_ → ¬ own a_69 q_ := apartNew (ge_new hl_95) ho_72.own_lt
            have pr_100 : ¬ own (some ⟨b_91, 0, none⟩) b := notNew (ge_new hl_95) hb82.lt
            have pr_101 : ∀ q_, own (some ⟨b_91, 0, none⟩) q_ → ¬ own aL_47 q_ := apartNew (ge_new hl_95) hoL82.own_lt
            have pr_102 : ∀ q_, own (some ⟨b_91, 0, none⟩) q_ → ¬ own aP_49 q_ := apartNew (ge_new hl_95) hoP82.own_lt
            have pg_103 : ∀ q_, own (some ⟨b_91, 0, none⟩) q_ → q_ < w.heap.size → (rtabS b aL aP) q_ := fun q_ h hlt => absurd (Nat.le_trans K0.size ((ge_new hl_95) q_ h)) (by omega)
            have pw_104 : ∀ q_, own (some ⟨b_91, 0, none⟩) q_ → w.heap.size ≤ q_ := fun q_ h => Nat.le_trans K0.size ((ge_new hl_95) q_ h)
            clear hl_95
            replace hb_4 := hb_4.ext K_93
            replace hb_35 := hb_35.ext K_93
            replace ho_61 := ho_61.ext K_93
            replace ho_72 := ho_72.ext K_93
            replace hb82 := hb82.ext K_93
            replace hoL82 := hoL82.ext K_93
            replace hoP82 := hoP82.ext K_93
            replace K0 := K0.ext K_93
            refine ⟨.inr ⟨hb_4, hb82, trivial⟩, ?_⟩
            refine RT.takeP (v := .slice (some ⟨b_91, 0, none⟩) (([(⟨7, (learnT (passT T t) (⟨(m).frm, 0, 1⟩ : Peer)).self, (m).frm, (m).req, ⟨#[]⟩, ⟨none, 0, 0⟩, ⟨none, 0, 0⟩, ⟨none, 0, 0⟩, (learnT (passT T t) (⟨(m).frm, 0, 1⟩ : Peer)).self, 0, -1, 0, 0, 0, ⟨none, 0, 0⟩, ⟨none, 0, 0⟩, ⟨none, 0, 0⟩⟩ : MsgC)] : List MsgC).length) (([(⟨7, (learnT (passT T t) (⟨(m).frm, 0, 1⟩ : Peer)).self, (m).frm, (m).req, ⟨#[]⟩, ⟨none, 0, 0⟩, ⟨none, 0, 0⟩, ⟨none, 0, 0⟩, (learnT (passT T t) (⟨(m).frm, 0, 1⟩ : Peer)).self, 0, -1, 0, 0, 0, ⟨none, 0, 0⟩, ⟨none, 0, 0⟩, ⟨none, 0, 0⟩⟩ : MsgC)] : List MsgC).length)) 16 rfl (by kernel_rfl) (.inr ⟨hb_4, hb82, trivial⟩) (fun _ => (x_assignSl rfl)) ?_
            refine RT.takeP (v := .slice (a_69) ((([] : List Peer) ++ ([(⟨(m).frm, 0, 1⟩ : Peer)] : List Peer)).length) (c_70)) 17 rfl (by kernel_rfl) (.inr ⟨hb_4, hb82, trivial⟩) (fun _ => (x_assignSl rfl)) ?_
            refine RT.done (by kernel_rfl) ?_
            refine Run.ret2 (v := .slice (some ⟨b_91, 0, none⟩) (([(⟨7, (learnT (passT T t) (⟨(m).frm, 0, 1⟩ : Peer)).self, (m).frm, (m).req, ⟨#[]⟩, ⟨none, 0, 0⟩, ⟨none, 0, 0⟩, ⟨none, 0, 0⟩, (learnT (passT T t) (⟨(m).frm, 0, 1⟩ : Peer)).self, 0, -1, 0, 0, 0, ⟨none, 0, 0⟩, ⟨none, 0, 0⟩, ⟨none, 0, 0⟩⟩ : MsgC)] : List MsgC).length) (([(⟨7, (learnT (passT T t) (⟨(m).frm, 0, 1⟩ : Peer)).self, (m).frm, (m).req, ⟨#[]⟩, ⟨none, 0, 0⟩, ⟨none, 0, 0⟩, ⟨none, 0, 0⟩, (learnT (passT T t) (⟨(m).frm, 0, 1⟩ : Peer)).self, 0, -1, 0, 0, 0, ⟨none, 0, 0⟩, ⟨none, 0, 0⟩, ⟨none, 0, 0⟩⟩ : MsgC)] : List MsgC).length)) (x := .slice (a_69) ((([] : List Peer) ++ ([(⟨(m).frm, 0, 1⟩ : Peer)] : List Peer)).length) (c_70)) Try.func35 rfl rfl rfl ?_
            have e := on_ping (T := T) (t := t) hno hc56
            rw [meet_new hk hks] at e
            dsimp only at e
            have e' : pingedT (learnT (passT T t) (⟨(m).frm, 0, 1⟩ : Peer)) m = ([(⟨7, (learnT (passT T t) (⟨(m).frm, 0, 1⟩ : Peer)).self, (m).frm, (m).req, ⟨#[]⟩, ⟨none, 0, 0⟩, ⟨none, 0, 0⟩, ⟨none, 0, 0⟩, (learnT (passT T t) (⟨(m).frm, 0, 1⟩ : Peer)).self, 0, -1, 0, 0, 0, ⟨none, 0, 0⟩, ⟨none, 0, 0⟩, ⟨none, 0, 0⟩⟩ : MsgC)] : List MsgC) := by rw [pingedT, if_pos hc68, clampN, if_pos (by omega)]; first | done | rfl
            rw [e'] at e
            have hR_105 : RTabAt w_92 b aL_47 cL_48 aP_49 cP_50 (learnT (passT T t) (⟨(m).frm, 0, 1⟩ : Peer)) := ⟨hb82, hoL82, hoP82, hapL82, hapP82, hapLP82, ok82, nv82⟩
            have pt_106 : ¬ rtabS b aL_47 aP_49 b_1 := (fun h1 => h1.elim (fun e => absurd e (by omega)) (fun h1 => h1.elim (fun h => (fun h1 => pr_55 (.inr (.inl h1))) h) (fun h => (fun h1 => pr_55 (.inr (.inr h1))) h)))
            have pt_107 : ¬ rtabS b aL_47 aP_49 b_32 := (fun h1 => h1.elim (fun e => absurd e (by omega)) (fun h1 => h1.elim (fun h => (fun h1 => pr_56 (.inr (.inl h1))) h) (fun h => (fun h1 => pr_56 (.inr (.inr h1))) h)))
            have pt_108 : ∀ q_, rtabS b aL_47 aP_49 q_ → ¬ own (some ⟨b_58, 0, none⟩) q_ := (fun q_ h1 h2 => h1.elim (fun e => (fun h2 => (fun q_ h1 h2 => pr_65 q_ h2 h1) _ (.inl rfl) h2) (e ▸ h2)) (fun h1 => h1.elim (fun h => (fun q_ h1 h2 => (fun q_ h1 h2 => pr_65 q_ h2 h1) q_ (.inr (.inl h1)) h2) q_ h h2) (fun h => (fun q_ h1 h2 => (fun q_ h1 h2 => pr_65 q_ h2 h1) q_ (.inr (.inr h1)) h2) q_ h h2)))
            have pt_109 : ∀ q_, rtabS b aL_47 aP_49 q_ → ¬ own a_69 q_ := (fun q_ h1 h2 => h1.elim (fun e => (fun h2 => (fun q_ h1 h2 => pr_78 q_ h2 h1) _ (.inl rfl) h2) (e ▸ h2)) (fun h1 => h1.elim (fun h => (fun q_ h1 h2 => (fun q_ h1 h2 => pr_78 q_ h2 h1) q_ (.inr (.inl h1)) h2) q_ h h2) (fun h => (fun q_ h1 h2 => (fun q_ h1 h2 => pr_78 q_ h2 h1) q_ (.inr (.inr h1)) h2) q_ h h2)))
            have pt_110 : ∀ q_, rtabS b aL_47 aP_49 q_ → ¬ own (some ⟨b_91, 0, none⟩) q_ := (fun q_ h1 h2 => h1.elim (fun e => pr_100 (e ▸ h2)) (fun h1 => h1.elim (fun h => (fun q_ h1 h2 => pr_101 q_ h2 h1) q_ h h2) (fun h => (fun q_ h1 h2 => pr_102 q_ h2 h1) q_ h h2)))
            have pt_111 : ∀ q_, rtabS b aL_47 aP_49 q_ → q_ < w.heap.size → (rtabS b aL aP) q_ := (fun q_ h1 hlt => h1.elim (fun e => e ▸ (Or.inl rfl)) (fun h1 => h1.elim (fun h => (fun q_ h1 hlt => pg_57 q_ (.inr (.inl h1)) hlt) q_ h hlt) (fun h => (fun q_ h1 hlt => pg_57 q_ (.inr (.inr h1)) hlt) q_ h hlt)))
            clear hb82 hoL82 hoP82
            have e1 : (on T m t).T = learnT (passT T t) (⟨(m).frm, 0, 1⟩ : Peer) := by rw [e]
            have e2 : (on T m t).out = ([(⟨7, (learnT (passT T t) (⟨(m).frm, 0, 1⟩ : Peer)).self, (m).frm, (m).req, ⟨#[]⟩, ⟨none, 0, 0⟩, ⟨none, 0, 0⟩, ⟨none, 0, 0⟩, (learnT (passT T t) (⟨(m).frm, 0, 1⟩ : Peer)).self, 0, -1, 0, 0, 0, ⟨none, 0, 0⟩, ⟨none, 0, 0⟩, ⟨none, 0, 0⟩⟩ : MsgC)] : List MsgC) := by rw [e]
            have e3 : (on T m t).told = ([] : List Peer) ++ ([(⟨(m).frm, 0, 1⟩ : Peer)] : List Peer) := by rw [e]; try rfl
            rw [e1, e2, e3]
            exact ⟨_, rfl, aL_47, cL_48, aP_49, cP_50, some ⟨b_91, 0, none⟩, ([(⟨7, (learnT (passT T t) (⟨(m).frm, 0, 1⟩ : Peer)).self, (m).frm, (m).req, ⟨#[]⟩, ⟨none, 0, 0⟩, ⟨none, 0, 0⟩, ⟨none, 0, 0⟩, (learnT (passT T t) (⟨(m).frm, 0, 1⟩ : Peer)).self, 0, -1, 0, 0, 0, ⟨none, 0, 0⟩, ⟨none, 0, 0⟩, ⟨none, 0, 0⟩⟩ : MsgC)] : List MsgC).length, a_69, c_70, rfl, hR_105, ho_94, ho_72, pw_104, pw_81, (fun q_ h1 h2 => pt_110 q_ h2 h1), (fun q_ h1 h2 => pt_109 q_ h2 h1), pr_99, rtabMoved' (fun x hx hlt => pt_111 x (.inr (.inl hx)) hlt) (fun x hx hlt => pt_111 x (.inr (.inr hx)) hlt), K0⟩
          · try simp only [br] at hc73
            refine Run.skip ?_
            refine Run.seq ?_
            refine Run.drawT [] (m := 18) (by kernel_rfl) rfl ?_
            intro w_112 K_113
            replace hb_4 := hb_4.ext K_113
            replace hb_35 := hb_35.ext K_113
            replace ho_61 := ho_61.ext K_113
            replace ho_72 := ho_72.ext K_113
            replace hb82 := hb82.ext K_113
            replace hoL82 := hoL82.ext K_113
            replace hoP82 := hoP82.ext K_113
            replace K0 := K0.ext K_113
            refine ⟨fun w' => Blk w' b_1 [.int .i64 ((m).kind), .int .i64 ((m).frm), .int .i64 ((m).to), .int .i64 ((m).req), .string ((m).key), .slice ((m).entries.a) ((m).entries.len) ((m).entries.cap), .slice ((m).marks.a) ((m).marks.len) ((m).marks.cap), .slice ((m).cloud.a) ((m).cloud.len) ((m).cloud.cap), .int .i64 ((m).owner), .int .i64 ((m).part), .int .i64 ((m).n), .int .i64 ((m).rparts), .int .i64 ((m).rcopies), .int .i64 ((m).rspots), .slice ((m).members.a) ((m).members.len) ((m).members.cap), .slice ((m).peers.a) ((m).peers.len) ((m).peers.cap), .slice ((m).sums.a) ((m).sums.len) ((m).sums.cap)] 61 ∧ Blk w' b [.int .i64 ((learnT (passT T t) (⟨(m).frm, 0, 1⟩ : Peer)).self), .int .i64 ((learnT (passT T t) (⟨(m).frm, 0, 1⟩ : Peer)).now), .slice (aL_47) ((knownL (learnT (passT T t) (⟨(m).frm, 0, 1⟩ : Peer)).l).length) (cL_48), .slice (aP_49) ((learnT (passT T t) (⟨(m).frm, 0, 1⟩ : Peer)).pings.length) (cP_50), .int .i64 ((learnT (passT T t) (⟨(m).frm, 0, 1⟩ : Peer)).req), .bool ((learnT (passT T t) (⟨(m).frm, 0, 1⟩ : Peer)).begun), .int .i64 ((learnT (passT T t) (⟨(m).frm, 0, 1⟩ : Peer)).last), .int .i64 ((learnT (passT T t) (⟨(m).frm, 0, 1⟩ : Peer)).target)] 94 ∧ True, ?_⟩
            refine RT.takeP (v := .pointer (some ⟨b, 0, none⟩)) 0 rfl (by kernel_rfl) (.inr ⟨hb_4, hb82, trivial⟩) (fun _ => (x_moveP rfl)) ?_
            refine RT.takeP (v := .pointer (some ⟨b, 0, none⟩)) 1 rfl (by kernel_rfl) (.inr ⟨hb_4, hb82, trivial⟩) (fun _ => (x_nilCheck rfl)) ?_
            refine RT.takeP (v := .pointer (some ⟨b, 0, none⟩)) 2 rfl (by kernel_rfl) (.inr ⟨hb_4, hb82, trivial⟩) (fun _ => (x_fld (o' := 0) Try.underlying94 rfl ty3 rfl rfl rfl)) ?_
            refine RT.take (v := .int .i64 ((learnT (passT T t) (⟨(m).frm, 0, 1⟩ : Peer)).self)) 3 rfl (by kernel_rfl) ⟨hb_4, hb82, trivial⟩ (by rintro _ ⟨hb_4, hb82, -⟩; exact (x_ld (v := .int .i64 ((learnT (passT T t) (⟨(m).frm, 0, 1⟩ : Peer)).self)) ty3 rfl rfl (hb82.cl.field (i := 0) rfl))) ?_
            refine RT.takeP (v := .pointer (some ⟨b_1, 1, none⟩)) 4 rfl (by kernel_rfl) (.inr ⟨hb_4, hb82, trivial⟩) (fun _ => (x_fld (o' := 1) Try.underlying61 rfl ty3 rfl rfl rfl)) ?_
            refine RT.take (v := .int .i64 ((m).frm)) 5 rfl (by kernel_rfl) ⟨hb_4, hb82, trivial⟩ (by rintro _ ⟨hb_4, hb82, -⟩; exact (x_ld (v := .int .i64 ((m).frm)) ty3 rfl rfl (hb_4.cl.field (i := 1) rfl))) ?_
            refine RT.takeP (v := .pointer (some ⟨b_1, 3, none⟩)) 6 rfl (by kernel_rfl) (.inr ⟨hb_4, hb82, trivial⟩) (fun _ => (x_fld (o' := 3) Try.underlying61 rfl ty3 rfl rfl rfl)) ?_
            refine RT.take (v := .int .i64 ((m).req)) 7 rfl (by kernel_rfl) ⟨hb_4, hb82, trivial⟩ (by rintro _ ⟨hb_4, hb82, -⟩; exact (x_ld (v := .int .i64 ((m).req)) ty3 rfl rfl (hb_4.cl.field (i := 3) rfl))) ?_
            refine RT.takeP (v := .pointer (some ⟨b, 0, none⟩)) 8 rfl (by kernel_rfl) (.inr ⟨hb_4, hb82, trivial⟩) (fun _ => (x_moveP rfl)) ?_
            refine RT.takeP (v := .pointer (some ⟨b, 0, none⟩)) 9 rfl (by kernel_rfl) (.inr ⟨hb_4, hb82, trivial⟩) (fun _ => (x_nilCheck rfl)) ?_
            refine RT.takeP (v := .pointer (some ⟨b, 0, none⟩)) 10 rfl (by kernel_rfl) (.inr ⟨hb_4, hb82, trivial⟩) (fun _ => (x_fld (o' := 0) Try.underlying94 rfl ty3 rfl rfl rfl)) ?_
            refine RT.take (v := .int .i64 ((learnT (passT T t) (⟨(m).frm, 0, 1⟩ : Peer)).self)) 11 rfl (by kernel_rfl) ⟨hb_4, hb82, trivial⟩ (by rintro _ ⟨hb_4, hb82, -⟩; exact (x_ld (v := .int .i64 ((learnT (passT T t) (⟨(m).frm, 0, 1⟩ : Peer)).self)) ty3 rfl rfl (hb82.cl.field (i := 0) rfl))) ?_
            refine RT.takeP (v := .int .i64 ((m).n)) 12 rfl (by kernel_rfl) (.inr ⟨hb_4, hb82, trivial⟩) (fun _ => (x_moveI rfl)) ?_
            refine RT.takeP (v := .agg #[.int .i64 (7), .int .i64 ((learnT (passT T t) (⟨(m).frm, 0, 1⟩ : Peer)).self), .int .i64 ((m).frm), .int .i64 ((m).req), .string (⟨#[]⟩), .slice (none) (0) (0), .slice (none) (0) (0), .slice (none) (0) (0), .int .i64 ((learnT (passT T t) (⟨(m).frm, 0, 1⟩ : Peer)).self), .int .i64 (0), .int .i64 ((m).n), .int .i64 (0), .int .i64 (0), .int .i64 (0), .slice (none) (0) (0), .slice (none) (0) (0), .slice (none) (0) (0)]) 13 rfl (by kernel_rfl) (.inr ⟨hb_4, hb82, trivial⟩) (fun _ => (x_build (cells := #[.int .i64 (7), .int .i64 ((learnT (passT T t) (⟨(m).frm, 0, 1⟩ : Peer)).self), .int .i64 ((m).frm), .int .i64 ((m).req), .string (⟨#[]⟩), .slice (none) (0) (0), .slice (none) (0) (0), .slice (none) (0) (0), .int .i64 ((learnT (passT T t) (⟨(m).frm, 0, 1⟩ : Peer)).self), .int .i64 (0), .int .i64 ((m).n), .int .i64 (0), .int .i64 (0), .int .i64 (0), .slice (none) (0) (0), .slice (none) (0) (0), .slice (none) (0) (0)]) (by kernel_rfl))) ?_
            refine RT.takeP (v := .slice (a_69) ((([] : List Peer) ++ ([(⟨(m).frm, 0, 1⟩ : Peer)] : List Peer)).length) (c_70)) 15 rfl (by kernel_rfl) (.inr ⟨hb_4, hb82, trivial⟩) (fun _ => (x_moveSl rfl)) ?_
            refine RT.st 14 rfl (by kernel_rfl) rfl <| St1.buildSlice ([(⟨7, (learnT (passT T t) (⟨(m).frm, 0, 1⟩ : Peer)).self, (m).frm, (m).req, ⟨#[]⟩, ⟨none, 0, 0⟩, ⟨none, 0, 0⟩, ⟨none, 0, 0⟩, (learnT (passT T t) (⟨(m).frm, 0, 1⟩ : Peer)).self, 0, (m).n, 0, 0, 0, ⟨none, 0, 0⟩, ⟨none, 0, 0⟩, ⟨none, 0, 0⟩⟩ : MsgC)] : List MsgC) Try.underlying34 ty61 rfl rfl (by first | decide | (simp [Enc.size])) ?_
            intro b_114 w_115 hl_118 ho_117 K_116
            have pr_119 : ¬ own (some ⟨b_114, 0, none⟩) b_1 := notNew (ge_new hl_118) hb_4.lt
            have pr_120 : ¬ own (some ⟨b_114, 0, none⟩) b_32 := notNew (ge_new hl_118) hb_35.lt
            have pr_121 : ∀ q_, own (some ⟨b_114, 0, none⟩) q_ → ¬ own (some ⟨b_58, 0, none⟩) q_ := apartNew (ge_new hl_118) ho_61.own_lt
            have pr_122 : ∀ q_, own (some ⟨b_114, 0, none⟩) q_ → ¬ own a_69 q_ := apartNew (ge_new hl_118) ho_72.own_lt
            have pr_123 : ¬ own (some ⟨b_114, 0, none⟩) b := notNew (ge_new hl_118) hb82.lt
            have pr_124 : ∀ q_, own (some ⟨b_114, 0, none⟩) q_ → ¬ own aL_47 q_ := apartNew (ge_new hl_118) hoL82.own_lt
            have pr_125 : ∀ q_, own (some ⟨b_114, 0, none⟩) q_ → ¬ own aP_49 q_ := apartNew (ge_new hl_118) hoP82.own_lt
            have pg_126 : ∀ q_, own (some ⟨b_114, 0, none⟩) q_ → q_ < w.heap.size → (rtabS b aL aP) q_ := fun q_ h hlt => absurd (Nat.le_trans K0.size ((ge_new hl_118) q_ h)) (by omega)
            have pw_127 : ∀ q_, own (some ⟨b_114, 0, none⟩) q_ → w.heap.size ≤ q_ := fun q_ h => Nat.le_trans K0.size ((ge_new hl_118) q_ h)
            clear hl_118
            replace hb_4 := hb_4.ext K_116
            replace hb_35 := hb_35.ext K_116
            replace ho_61 := ho_61.ext K_116
            replace ho_72 := ho_72.ext K_116
            replace hb82 := hb82.ext K_116
            replace hoL82 := hoL82.ext K_116
            replace hoP82 := hoP82.ext K_116
            replace K0 := K0.ext K_116
            refine ⟨.inr ⟨hb_4, hb82, trivial⟩, ?_⟩
            refine RT.takeP (v := .slice (some ⟨b_114, 0, none⟩) (([(⟨7, (learnT (passT T t) (⟨(m).frm, 0, 1⟩ : Peer)).self, (m).frm, (m).req, ⟨#[]⟩, ⟨none, 0, 0⟩, ⟨none, 0, 0⟩, ⟨none, 0, 0⟩, (learnT (passT T t) (⟨(m).frm, 0, 1⟩ : Peer)).self, 0, (m).n, 0, 0, 0, ⟨none, 0, 0⟩, ⟨none, 0, 0⟩, ⟨none, 0, 0⟩⟩ : MsgC)] : List MsgC).length) (([(⟨7, (learnT (passT T t) (⟨(m).frm, 0, 1⟩ : Peer)).self, (m).frm, (m).req, ⟨#[]⟩, ⟨none, 0, 0⟩, ⟨none, 0, 0⟩, ⟨none, 0, 0⟩, (learnT (passT T t) (⟨(m).frm, 0, 1⟩ : Peer)).self, 0, (m).n, 0, 0, 0, ⟨none, 0, 0⟩, ⟨none, 0, 0⟩, ⟨none, 0, 0⟩⟩ : MsgC)] : List MsgC).length)) 16 rfl (by kernel_rfl) (.inr ⟨hb_4, hb82, trivial⟩) (fun _ => (x_assignSl rfl)) ?_
            refine RT.takeP (v := .slice (a_69) ((([] : List Peer) ++ ([(⟨(m).frm, 0, 1⟩ : Peer)] : List Peer)).length) (c_70)) 17 rfl (by kernel_rfl) (.inr ⟨hb_4, hb82, trivial⟩) (fun _ => (x_assignSl rfl)) ?_
            refine RT.done (by kernel_rfl) ?_
            refine Run.ret2 (v := .slice (some ⟨b_114, 0, none⟩) (([(⟨7, (learnT (passT T t) (⟨(m).frm, 0, 1⟩ : Peer)).self, (m).frm, (m).req, ⟨#[]⟩, ⟨none, 0, 0⟩, ⟨none, 0, 0⟩, ⟨none, 0, 0⟩, (learnT (passT T t) (⟨(m).frm, 0, 1⟩ : Peer)).self, 0, (m).n, 0, 0, 0, ⟨none, 0, 0⟩, ⟨none, 0, 0⟩, ⟨none, 0, 0⟩⟩ : MsgC)] : List MsgC).length) (([(⟨7, (learnT (passT T t) (⟨(m).frm, 0, 1⟩ : Peer)).self, (m).frm, (m).req, ⟨#[]⟩, ⟨none, 0, 0⟩, ⟨none, 0, 0⟩, ⟨none, 0, 0⟩, (learnT (passT T t) (⟨(m).frm, 0, 1⟩ : Peer)).self, 0, (m).n, 0, 0, 0, ⟨none, 0, 0⟩, ⟨none, 0, 0⟩, ⟨none, 0, 0⟩⟩ : MsgC)] : List MsgC).length)) (x := .slice (a_69) ((([] : List Peer) ++ ([(⟨(m).frm, 0, 1⟩ : Peer)] : List Peer)).length) (c_70)) Try.func35 rfl rfl rfl ?_
            have e := on_ping (T := T) (t := t) hno hc56
            rw [meet_new hk hks] at e
            dsimp only at e
            have e' : pingedT (learnT (passT T t) (⟨(m).frm, 0, 1⟩ : Peer)) m = ([(⟨7, (learnT (passT T t) (⟨(m).frm, 0, 1⟩ : Peer)).self, (m).frm, (m).req, ⟨#[]⟩, ⟨none, 0, 0⟩, ⟨none, 0, 0⟩, ⟨none, 0, 0⟩, (learnT (passT T t) (⟨(m).frm, 0, 1⟩ : Peer)).self, 0, (m).n, 0, 0, 0, ⟨none, 0, 0⟩, ⟨none, 0, 0⟩, ⟨none, 0, 0⟩⟩ : MsgC)] : List MsgC) := by rw [pingedT, if_pos hc68, clampN, if_neg (by omega)]; first | done | rfl
            rw [e'] at e
            have hR_128 : RTabAt w_115 b aL_47 cL_48 aP_49 cP_50 (learnT (passT T t) (⟨(m).frm, 0, 1⟩ : Peer)) := ⟨hb82, hoL82, hoP82, hapL82, hapP82, hapLP82, ok82, nv82⟩
            have pt_129 : ¬ rtabS b aL_47 aP_49 b_1 := (fun h1 => h1.elim (fun e => absurd e (by omega)) (fun h1 => h1.elim (fun h => (fun h1 => pr_55 (.inr (.inl h1))) h) (fun h => (fun h1 => pr_55 (.inr (.inr h1))) h)))
            have pt_130 : ¬ rtabS b aL_47 aP_49 b_32 := (fun h1 => h1.elim (fun e => absurd e (by omega)) (fun h1 => h1.elim (fun h => (fun h1 => pr_56 (.inr (.inl h1))) h) (fun h => (fun h1 => pr_56 (.inr (.inr h1))) h)))
            have pt_131 : ∀ q_, rtabS b aL_47 aP_49 q_ → ¬ own (some ⟨b_58, 0, none⟩) q_ := (fun q_ h1 h2 => h1.elim (fun e => (fun h2 => (fun q_ h1 h2 => pr_65 q_ h2 h1) _ (.inl rfl) h2) (e ▸ h2)) (fun h1 => h1.elim (fun h => (fun q_ h1 h2 => (fun q_ h1 h2 => pr_65 q_ h2 h1) q_ (.inr (.inl h1)) h2) q_ h h2) (fun h => (fun q_ h1 h2 => (fun q_ h1 h2 => pr_65 q_ h2 h1) q_ (.inr (.inr h1)) h2) q_ h h2)))
            have pt_132 : ∀ q_, rtabS b aL_47 aP_49 q_ → ¬ own a_69 q_ := (fun q_ h1 h2 => h1.elim (fun e => (fun h2 => (fun q_ h1 h2 => pr_78 q_ h2 h1) _ (.inl rfl) h2) (e ▸ h2)) (fun h1 => h1.elim (fun h => (fun q_ h1 h2 => (fun q_ h1 h2 => pr_78 q_ h2 h1) q_ (.inr (.inl h1)) h2) q_ h h2) (fun h => (fun q_ h1 h2 => (fun q_ h1 h2 => pr_78 q_ h2 h1) q_ (.inr (.inr h1)) h2) q_ h h2)))
            have pt_133 : ∀ q_, rtabS b aL_47 aP_49 q_ → ¬ own (some ⟨b_114, 0, none⟩) q_ := (fun q_ h1 h2 => h1.elim (fun e => pr_123 (e ▸ h2)) (fun h1 => h1.elim (fun h => (fun q_ h1 h2 => pr_124 q_ h2 h1) q_ h h2) (fun h => (fun q_ h1 h2 => pr_125 q_ h2 h1) q_ h h2)))
            have pt_134 : ∀ q_, rtabS b aL_47 aP_49 q_ → q_ < w.heap.size → (rtabS b aL aP) q_ := (fun q_ h1 hlt => h1.elim (fun e => e ▸ (Or.inl rfl)) (fun h1 => h1.elim (fun h => (fun q_ h1 hlt => pg_57 q_ (.inr (.inl h1)) hlt) q_ h hlt) (fun h => (fun q_ h1 hlt => pg_57 q_ (.inr (.inr h1)) hlt) q_ h hlt)))
            clear hb82 hoL82 hoP82
            have e1 : (on T m t).T = learnT (passT T t) (⟨(m).frm, 0, 1⟩ : Peer) := by rw [e]
            have e2 : (on T m t).out = ([(⟨7, (learnT (passT T t) (⟨(m).frm, 0, 1⟩ : Peer)).self, (m).frm, (m).req, ⟨#[]⟩, ⟨none, 0, 0⟩, ⟨none, 0, 0⟩, ⟨none, 0, 0⟩, (learnT (passT T t) (⟨(m).frm, 0, 1⟩ : Peer)).self, 0, (m).n, 0, 0, 0, ⟨none, 0, 0⟩, ⟨none, 0, 0⟩, ⟨none, 0, 0⟩⟩ : MsgC)] : List MsgC) := by rw [e]
            have e3 : (on T m t).told = ([] : List Peer) ++ ([(⟨(m).frm, 0, 1⟩ : Peer)] : List Peer) := by rw [e]; try rfl
            rw [e1, e2, e3]
            exact ⟨_, rfl, aL_47, cL_48, aP_49, cP_50, some ⟨b_114, 0, none⟩, ([(⟨7, (learnT (passT T t) (⟨(m).frm, 0, 1⟩ : Peer)).self, (m).frm, (m).req, ⟨#[]⟩, ⟨none, 0, 0⟩, ⟨none, 0, 0⟩, ⟨none, 0, 0⟩, (learnT (passT T t) (⟨(m).frm, 0, 1⟩ : Peer)).self, 0, (m).n, 0, 0, 0, ⟨none, 0, 0⟩, ⟨none, 0, 0⟩, ⟨none, 0, 0⟩⟩ : MsgC)] : List MsgC).length, a_69, c_70, rfl, hR_128, ho_117, ho_72, pw_127, pw_81, (fun q_ h1 h2 => pt_133 q_ h2 h1), (fun q_ h1 h2 => pt_132 q_ h2 h1), pr_122, rtabMoved' (fun x hx hlt => pt_134 x (.inr (.inl hx)) hlt) (fun x hx hlt => pt_134 x (.inr (.inr hx)) hlt), K0⟩
        · try simp only [br] at hc68
          refine Run.skip ?_
          refine Run.seq ?_
          refine Run.seq ?_
          refine Run.region ?_
          refine RL.val (x_fld (o' := 8) Try.underlying61 rfl ty3 rfl rfl rfl) ?_
          refine RL.val (x_ld (v := .int .i64 ((m).owner)) ty3 rfl rfl (hb_4.cl.field (i := 8) rfl)) ?_
          refine RL.st rfl <| St1.call (vals := [.int .i64 ((m).owner)]) en55 rfl (node_ ((m).owner) _) ?_
          rintro _ w_135 ⟨rfl, K_136⟩
          replace hb_4 := hb_4.ext K_136
          replace hb_35 := hb_35.ext K_136
          replace ho_61 := ho_61.ext K_136
          replace ho_72 := ho_72.ext K_136
          replace hb82 := hb82.ext K_136
          replace hoL82 := hoL82.ext K_136
          replace hoP82 := hoP82.ext K_136
          replace K0 := K0.ext K_136
          refine RL.nil ?_
          refine Run.cond rfl (fun hc92 => ?_) (fun hc92 => ?_)
          · try simp only [br] at hc92
            refine Run.seq ?_
            refine Run.region ?_
            refine RL.val (x_moveP rfl) ?_
            refine RL.val (x_fld (o' := 8) Try.underlying61 rfl ty3 rfl rfl rfl) ?_
            refine RL.val (x_ld (v := .int .i64 ((m).owner)) ty3 rfl rfl (hb_4.cl.field (i := 8) rfl)) ?_
            refine RL.val (x_fld (o' := 3) Try.underlying61 rfl ty3 rfl rfl rfl) ?_
            refine RL.val (x_ld (v := .int .i64 ((m).req)) ty3 rfl rfl (hb_4.cl.field (i := 3) rfl)) ?_
            refine RL.val (x_fld (o' := 1) Try.underlying61 rfl ty3 rfl rfl rfl) ?_
            refine RL.val (x_ld (v := .int .i64 ((m).frm)) ty3 rfl rfl (hb_4.cl.field (i := 1) rfl)) ?_
            refine RL.st rfl <| St1.call (vals := [.pointer (some ⟨b, 0, none⟩), .int .i64 ((m).owner), .int .i64 ((m).req), .int .i64 (-1), .int .i64 ((m).frm)]) en54 rfl (sendR_ _ _ _ _ _ (learnT (passT T t) (⟨(m).frm, 0, 1⟩ : Peer)) ((m).owner) ((m).req) (-1) ((m).frm) _ hb82 hoL82.sl hoP82.sl ok82) ?_
            rintro _ w_137 ⟨rfl, K_138⟩
            replace hb_4 := hb_4.ext K_138
            replace hb_35 := hb_35.ext K_138
            replace ho_61 := ho_61.ext K_138
            replace ho_72 := ho_72.ext K_138
            replace hb82 := hb82.ext K_138
            replace hoL82 := hoL82.ext K_138
            replace hoP82 := hoP82.ext K_138
            replace K0 := K0.ext K_138
            refine RL.st rfl <| St1.buildSlice ([mkMsg 6 (learnT (passT T t) (⟨(m).frm, 0, 1⟩ : Peer)).self ((m).owner) ((m).req) (-1) ((m).frm)] : List MsgC) Try.underlying34 ty61 rfl rfl (by first | decide | (simp [Enc.size])) ?_
            intro b_139 w_140 hl_143 ho_142 K_141
            have pr_144 : ¬ own (some ⟨b_139, 0, none⟩) b_1 := notNew (ge_new hl_143) hb_4.lt
            have pr_145 : ¬ own (some ⟨b_139, 0, none⟩) b_32 := notNew (ge_new hl_143) hb_35.lt
            have pr_146 : ∀ q_, own (some ⟨b_139, 0, none⟩) q_ → ¬ own (some ⟨b_58, 0, none⟩) q_ := apartNew (ge_new hl_143) ho_61.own_lt
            have pr_147 : ∀ q_, own (some ⟨b_139, 0, none⟩) q_ → ¬ own a_69 q_ := apartNew (ge_new hl_143) ho_72.own_lt
            have pr_148 : ¬ own (some ⟨b_139, 0, none⟩) b := notNew (ge_new hl_143) hb82.lt
            have pr_149 : ∀ q_, own (some ⟨b_139, 0, none⟩) q_ → ¬ own aL_47 q_ := apartNew (ge_new hl_143) hoL82.own_lt
            have pr_150 : ∀ q_, own (some ⟨b_139, 0, none⟩) q_ → ¬ own aP_49 q_ := apartNew (ge_new hl_143) hoP82.own_lt
            have pg_151 : ∀ q_, own (some ⟨b_139, 0, none⟩) q_ → q_ < w.heap.size → (rtabS b aL aP) q_ := fun q_ h hlt => absurd (Nat.le_trans K0.size ((ge_new hl_143) q_ h)) (by omega)
            have pw_152 : ∀ q_, own (some ⟨b_139, 0, none⟩) q_ → w.heap.size ≤ q_ := fun q_ h => Nat.le_trans K0.size ((ge_new hl_143) q_ h)
            clear hl_143
            replace hb_4 := hb_4.ext K_141
            replace hb_35 := hb_35.ext K_141
            replace ho_61 := ho_61.ext K_141
            replace ho_72 := ho_72.ext K_141
            replace hb82 := hb82.ext K_141
            replace hoL82 := hoL82.ext K_141
            replace hoP82 := hoP82.ext K_141
            replace K0 := K0.ext K_141
            refine RL.val (x_moveSl rfl) ?_
            refine RL.val (x_assignSl rfl) ?_
            refine RL.val (x_assignSl rfl) ?_
            refine RL.nil ?_
            refine Run.ret2 (v := .slice (some ⟨b_139, 0, none⟩) (([mkMsg 6 (learnT (passT T t) (⟨(m).frm, 0, 1⟩ : Peer)).self ((m).owner) ((m).req) (-1) ((m).frm)] : List MsgC).length) (([mkMsg 6 (learnT (passT T t) (⟨(m).frm, 0, 1⟩ : Peer)).self ((m).owner) ((m).req) (-1) ((m).frm)] : List MsgC).length)) (x := .slice (a_69) ((([] : List Peer) ++ ([(⟨(m).frm, 0, 1⟩ : Peer)] : List Peer)).length) (c_70)) Try.func35 rfl rfl rfl ?_
            have e := on_ping (T := T) (t := t) hno hc56
            rw [meet_new hk hks] at e
            dsimp only at e
            have e' : pingedT (learnT (passT T t) (⟨(m).frm, 0, 1⟩ : Peer)) m = ([mkMsg 6 (learnT (passT T t) (⟨(m).frm, 0, 1⟩ : Peer)).self ((m).owner) ((m).req) (-1) ((m).frm)] : List MsgC) := by rw [pingedT, if_neg (by omega), if_pos (by omega)]; first | done | rfl
            rw [e'] at e
            have hR_153 : RTabAt w_140 b aL_47 cL_48 aP_49 cP_50 (learnT (passT T t) (⟨(m).frm, 0, 1⟩ : Peer)) := ⟨hb82, hoL82, hoP82, hapL82, hapP82, hapLP82, ok82, nv82⟩
            have pt_154 : ¬ rtabS b aL_47 aP_49 b_1 := (fun h1 => h1.elim (fun e => absurd e (by omega)) (fun h1 => h1.elim (fun h => (fun h1 => pr_55 (.inr (.inl h1))) h) (fun h => (fun h1 => pr_55 (.inr (.inr h1))) h)))
            have pt_155 : ¬ rtabS b aL_47 aP_49 b_32 := (fun h1 => h1.elim (fun e => absurd e (by omega)) (fun h1 => h1.elim (fun h => (fun h1 => pr_56 (.inr (.inl h1))) h) (fun h => (fun h1 => pr_56 (.inr (.inr h1))) h)))
            have pt_156 : ∀ q_, rtabS b aL_47 aP_49 q_ → ¬ own (some ⟨b_58, 0, none⟩) q_ := (fun q_ h1 h2 => h1.elim (fun e => (fun h2 => (fun q_ h1 h2 => pr_65 q_ h2 h1) _ (.inl rfl) h2) (e ▸ h2)) (fun h1 => h1.elim (fun h => (fun q_ h1 h2 => (fun q_ h1 h2 => pr_65 q_ h2 h1) q_ (.inr (.inl h1)) h2) q_ h h2) (fun h => (fun q_ h1 h2 => (fun q_ h1 h2 => pr_65 q_ h2 h1) q_ (.inr (.inr h1)) h2) q_ h h2)))
            have pt_157 : ∀ q_, rtabS b aL_47 aP_49 q_ → ¬ own a_69 q_ := (fun q_ h1 h2 => h1.elim (fun e => (fun h2 => (fun q_ h1 h2 => pr_78 q_ h2 h1) _ (.inl rfl) h2) (e ▸ h2)) (fun h1 => h1.elim (fun h => (fun q_ h1 h2 => (fun q_ h1 h2 => pr_78 q_ h2 h1) q_ (.inr (.inl h1)) h2) q_ h h2) (fun h => (fun q_ h1 h2 => (fun q_ h1 h2 => pr_78 q_ h2 h1) q_ (.inr (.inr h1)) h2) q_ h h2)))
            have pt_158 : ∀ q_, rtabS b aL_47 aP_49 q_ → ¬ own (some ⟨b_139, 0, none⟩) q_ := (fun q_ h1 h2 => h1.elim (fun e => pr_148 (e ▸ h2)) (fun h1 => h1.elim (fun h => (fun q_ h1 h2 => pr_149 q_ h2 h1) q_ h h2) (fun h => (fun q_ h1 h2 => pr_150 q_ h2 h1) q_ h h2)))
            have pt_159 : ∀ q_, rtabS b aL_47 aP_49 q_ → q_ < w.heap.size → (rtabS b aL aP) q_ := (fun q_ h1 hlt => h1.elim (fun e => e ▸ (Or.inl rfl)) (fun h1 => h1.elim (fun h => (fun q_ h1 hlt => pg_57 q_ (.inr (.inl h1)) hlt) q_ h hlt) (fun h => (fun q_ h1 hlt => pg_57 q_ (.inr (.inr h1)) hlt) q_ h hlt)))
            clear hb82 hoL82 hoP82
            have e1 : (on T m t).T = learnT (passT T t) (⟨(m).frm, 0, 1⟩ : Peer) := by rw [e]
            have e2 : (on T m t).out = ([mkMsg 6 (learnT (passT T t) (⟨(m).frm, 0, 1⟩ : Peer)).self ((m).owner) ((m).req) (-1) ((m).frm)] : List MsgC) := by rw [e]
            have e3 : (on T m t).told = ([] : List Peer) ++ ([(⟨(m).frm, 0, 1⟩ : Peer)] : List Peer) := by rw [e]; try rfl
            rw [e1, e2, e3]
            exact ⟨_, rfl, aL_47, cL_48, aP_49, cP_50, some ⟨b_139, 0, none⟩, ([mkMsg 6 (learnT (passT T t) (⟨(m).frm, 0, 1⟩ : Peer)).self ((m).owner) ((m).req) (-1) ((m).frm)] : List MsgC).length, a_69, c_70, rfl, hR_153, ho_142, ho_72, pw_152, pw_81, (fun q_ h1 h2 => pt_158 q_ h2 h1), (fun q_ h1 h2 => pt_157 q_ h2 h1), pr_147, rtabMoved' (fun x hx hlt => pt_159 x (.inr (.inl hx)) hlt) (fun x hx hlt => pt_159 x (.inr (.inr hx)) hlt), K0⟩
          · try simp only [br] at hc92
            refine Run.skip ?_
            refine Run.seq ?_
            refine Run.region ?_
            refine RL.val (x_moveSl rfl) ?_
            refine RL.val (x_assignSl rfl) ?_
            refine RL.val (x_assignSl rfl) ?_
            refine RL.nil ?_
            refine Run.ret2 (v := .slice (none) (0) (0)) (x := .slice (a_69) ((([] : List Peer) ++ ([(⟨(m).frm, 0, 1⟩ : Peer)] : List Peer)).length) (c_70)) Try.func35 rfl rfl rfl ?_
            have ho_160 := OwnSl.nil (α := MsgC) w_135 61
            have e := on_ping (T := T) (t := t) hno hc56
            rw [meet_new hk hks] at e
            dsimp only at e
            have e' : pingedT (learnT (passT T t) (⟨(m).frm, 0, 1⟩ : Peer)) m = ([] : List MsgC) := by rw [pingedT, if_neg (by omega), if_neg (by omega)]; first | done | rfl
            rw [e'] at e
            have hR_161 : RTabAt w_135 b aL_47 cL_48 aP_49 cP_50 (learnT (passT T t) (⟨(m).frm, 0, 1⟩ : Peer)) := ⟨hb82, hoL82, hoP82, hapL82, hapP82, hapLP82, ok82, nv82⟩
            have pt_162 : ¬ rtabS b aL_47 aP_49 b_1 := (fun h1 => h1.elim (fun e => absurd e (by omega)) (fun h1 => h1.elim (fun h => (fun h1 => pr_55 (.inr (.inl h1))) h) (fun h => (fun h1 => pr_55 (.inr (.inr h1))) h)))
            have pt_163 : ¬ rtabS b aL_47 aP_49 b_32 := (fun h1 => h1.elim (fun e => absurd e (by omega)) (fun h1 => h1.elim (fun h => (fun h1 => pr_56 (.inr (.inl h1))) h) (fun h => (fun h1 => pr_56 (.inr (.inr h1))) h)))
            have pt_164 : ∀ q_, rtabS b aL_47 aP_49 q_ → ¬ own (some ⟨b_58, 0, none⟩) q_ := (fun q_ h1 h2 => h1.elim (fun e => (fun h2 => (fun q_ h1 h2 => pr_65 q_ h2 h1) _ (.inl rfl) h2) (e ▸ h2)) (fun h1 => h1.elim (fun h => (fun q_ h1 h2 => (fun q_ h1 h2 => pr_65 q_ h2 h1) q_ (.inr (.inl h1)) h2) q_ h h2) (fun h => (fun q_ h1 h2 => (fun q_ h1 h2 => pr_65 q_ h2 h1) q_ (.inr (.inr h1)) h2) q_ h h2)))
            have pt_165 : ∀ q_, rtabS b aL_47 aP_49 q_ → ¬ own a_69 q_ := (fun q_ h1 h2 => h1.elim (fun e => (fun h2 => (fun q_ h1 h2 => pr_78 q_ h2 h1) _ (.inl rfl) h2) (e ▸ h2)) (fun h1 => h1.elim (fun h => (fun q_ h1 h2 => (fun q_ h1 h2 => pr_78 q_ h2 h1) q_ (.inr (.inl h1)) h2) q_ h h2) (fun h => (fun q_ h1 h2 => (fun q_ h1 h2 => pr_78 q_ h2 h1) q_ (.inr (.inr h1)) h2) q_ h h2)))
            have pt_166 : ∀ q_, rtabS b aL_47 aP_49 q_ → ¬ own none q_ := (fun q_ h1 h2 => h1.elim (fun e => (own_none b) (e ▸ h2)) (fun h1 => h1.elim (fun h => (fun q_ h1 h2 => (fun q_ h1 _ => own_none q_ h1) q_ h2 h1) q_ h h2) (fun h => (fun q_ h1 h2 => (fun q_ h1 _ => own_none q_ h1) q_ h2 h1) q_ h h2)))
            have pt_167 : ∀ q_, rtabS b aL_47 aP_49 q_ → q_ < w.heap.size → (rtabS b aL aP) q_ := (fun q_ h1 hlt => h1.elim (fun e => e ▸ (Or.inl rfl)) (fun h1 => h1.elim (fun h => (fun q_ h1 hlt => pg_57 q_ (.inr (.inl h1)) hlt) q_ h hlt) (fun h => (fun q_ h1 hlt => pg_57 q_ (.inr (.inr h1)) hlt) q_ h hlt)))
            clear hb82 hoL82 hoP82
            have e1 : (on T m t).T = learnT (passT T t) (⟨(m).frm, 0, 1⟩ : Peer) := by rw [e]
            have e2 : (on T m t).out = ([] : List MsgC) := by rw [e]
            have e3 : (on T m t).told = ([] : List Peer) ++ ([(⟨(m).frm, 0, 1⟩ : Peer)] : List Peer) := by rw [e]; try rfl
            rw [e1, e2, e3]
            exact ⟨_, rfl, aL_47, cL_48, aP_49, cP_50, none, 0, a_69, c_70, rfl, hR_161, ho_160, ho_72, (fun q_ h1 => absurd h1 (own_none q_)), pw_81, (fun q_ h1 h2 => pt_166 q_ h2 h1), (fun q_ h1 h2 => pt_165 q_ h2 h1), (fun q_ h1 _ => own_none q_ h1), rtabMoved' (fun x hx hlt => pt_167 x (.inr (.inl hx)) hlt) (fun x hx hlt => pt_167 x (.inr (.inr hx)) hlt), K0⟩
      · try simp only [br] at hc56
        refine Run.skip ?_
        refine Run.seq ?_
        refine Run.seq ?_
        refine Run.draw' (m := 12) (by kernel_rfl) rfl ?_
        intro w_168 K_169
        replace hb_4 := hb_4.ext K_169
        replace hb_35 := hb_35.ext K_169
        replace ho_61 := ho_61.ext K_169
        replace ho_72 := ho_72.ext K_169
        replace hb82 := hb82.ext K_169
        replace hoL82 := hoL82.ext K_169
        replace hoP82 := hoP82.ext K_169
        replace K0 := K0.ext K_169
        refine RA.take (v := .pointer (some ⟨b_1, 10, none⟩)) 0 rfl (by kernel_rfl) rfl (by rintro _ rfl; exact (x_fld (o' := 10) Try.underlying61 rfl ty3 rfl rfl rfl)) ?_
        refine RA.take (v := .int .i64 ((m).n)) 1 rfl (by kernel_rfl) rfl (by rintro _ rfl; exact (x_ld (v := .int .i64 ((m).n)) ty3 rfl rfl (hb_4.cl.field (i := 10) rfl))) ?_
        refine RA.take (v := .bool (((m).n) == (-1))) 2 rfl (by kernel_rfl) rfl (by rintro _ rfl; exact (x_eqI rfl rfl)) ?_
        refine RA.take (v := .bool (((m).n) == (-1))) 3 rfl (by kernel_rfl) rfl (by rintro _ rfl; exact (x_moveB rfl)) ?_
        refine RA.gtake (v := .pointer (some ⟨b_1, 10, none⟩)) 4 rfl (by kernel_rfl) rfl (wantedF rfl rfl rfl rfl) (fun hg => by rintro _ rfl; exact (x_fld (o' := 10) Try.underlying61 rfl ty3 rfl rfl rfl)) ?_
        refine RA.gtake (v := .int .i64 ((m).n)) 5 rfl (by kernel_rfl) rfl (wantedF rfl rfl rfl rfl) (fun hg => by rintro _ rfl; exact (x_ld (v := .int .i64 ((m).n)) ty3 (gvr hg) rfl (hb_4.cl.field (i := 10) rfl))) ?_
        refine RA.gtake (v := .pointer (some ⟨b, 0, none⟩)) 6 rfl (by kernel_rfl) rfl (wantedF rfl rfl rfl rfl) (fun hg => by rintro _ rfl; exact (x_moveP rfl)) ?_
        refine RA.gtake (v := .pointer (some ⟨b, 0, none⟩)) 7 rfl (by kernel_rfl) rfl (wantedF rfl rfl rfl rfl) (fun hg => by rintro _ rfl; exact (x_nilCheck (gvr hg))) ?_
        refine RA.gtake (v := .pointer (some ⟨b, 0, none⟩)) 8 rfl (by kernel_rfl) rfl (wantedF rfl rfl rfl rfl) (fun hg => by rintro _ rfl; exact (x_fld (o' := 0) Try.underlying94 rfl ty3 rfl (gvr hg) rfl)) ?_
        refine RA.gtake (v := .int .i64 ((learnT (passT T t) (⟨(m).frm, 0, 1⟩ : Peer)).self)) 9 rfl (by kernel_rfl) rfl (wantedF rfl rfl rfl rfl) (fun hg => by rintro _ rfl; exact (x_ld (v := .int .i64 ((learnT (passT T t) (⟨(m).frm, 0, 1⟩ : Peer)).self)) ty3 (gvr hg) rfl (hb82.cl.field (i := 0) rfl))) ?_
        refine RA.gtake (v := .bool (((m).n) == ((learnT (passT T t) (⟨(m).frm, 0, 1⟩ : Peer)).self))) 10 rfl (by kernel_rfl) rfl (wantedF rfl rfl rfl rfl) (fun hg => by rintro _ rfl; exact (x_eqI (gvr hg) (gvr hg))) ?_
        refine RA.take (v := .bool ((((m).n) == (-1)) || (((m).n) == ((learnT (passT T t) (⟨(m).frm, 0, 1⟩ : Peer)).self)))) 11 rfl (by kernel_rfl) rfl (by rintro _ rfl; exact (x_or rfl rfl rfl)) ?_
        refine RA.done (by kernel_rfl) ?_
        refine Run.cond rfl (fun hc115 => ?_) (fun hc115 => ?_)
        · try simp only [br] at hc115
          refine Run.seq ?_
          refine Run.region ?_
          refine RL.val (x_assignSl rfl) ?_
          refine RL.nil ?_
          refine Run.seq ?_
          refine Run.seq ?_
          refine Run.region ?_
          refine RL.val (x_assignI rfl) ?_
          refine RL.nil ?_
          refine Run.block ?_
          refine Run.loop (ι := Nat) (fun i ρ' w' => ∃ al1 : Option Addr, ∃ cl1 : Nat, Holds ρ' [(0, .pointer (some ⟨b, 0, none⟩)), (4, .pointer (some ⟨b_1, 0, none⟩)), (8, .slice (a_69) ((([] : List Peer) ++ ([(⟨(m).frm, 0, 1⟩ : Peer)] : List Peer)).length) (c_70)), (11, .slice (al1) ((((learnT (passT T t) (⟨(m).frm, 0, 1⟩ : Peer)).pings.take i).filter (fun p => !((p.target == m.owner) && (p.req == m.req)))).length) (cl1)), (12, .int .i64 (((i : Nat) : Int)))] ∧ Keeps (rtabS b aL aP) w w' ∧ (Blk w' b_1 [.int .i64 ((m).kind), .int .i64 ((m).frm), .int .i64 ((m).to), .int .i64 ((m).req), .string ((m).key), .slice ((m).entries.a) ((m).entries.len) ((m).entries.cap), .slice ((m).marks.a) ((m).marks.len) ((m).marks.cap), .slice ((m).cloud.a) ((m).cloud.len) ((m).cloud.cap), .int .i64 ((m).owner), .int .i64 ((m).part), .int .i64 ((m).n), .int .i64 ((m).rparts), .int .i64 ((m).rcopies), .int .i64 ((m).rspots), .slice ((m).members.a) ((m).members.len) ((m).members.cap), .slice ((m).peers.a) ((m).peers.len) ((m).peers.cap), .slice ((m).sums.a) ((m).sums.len) ((m).sums.cap)] 61) ∧ (Blk w' b_32 [.int .i64 ((m).frm), .int .i64 (0), .int .i64 (1)] 23) ∧ (Blk w' b [.int .i64 ((learnT (passT T t) (⟨(m).frm, 0, 1⟩ : Peer)).self), .int .i64 ((learnT (passT T t) (⟨(m).frm, 0, 1⟩ : Peer)).now), .slice (aL_47) ((knownL (learnT (passT T t) (⟨(m).frm, 0, 1⟩ : Peer)).l).length) (cL_48), .slice (aP_49) ((learnT (passT T t) (⟨(m).frm, 0, 1⟩ : Peer)).pings.length) (cP_50), .int .i64 ((learnT (passT T t) (⟨(m).frm, 0, 1⟩ : Peer)).req), .bool ((learnT (passT T t) (⟨(m).frm, 0, 1⟩ : Peer)).begun), .int .i64 ((learnT (passT T t) (⟨(m).frm, 0, 1⟩ : Peer)).last), .int .i64 ((learnT (passT T t) (⟨(m).frm, 0, 1⟩ : Peer)).target)] 94) ∧ (OwnSl w' 23 (some ⟨b_58, 0, none⟩) (([(⟨(m).frm, 0, 1⟩ : Peer)] : List Peer).length) (([(⟨(m).frm, 0, 1⟩ : Peer)] : List Peer))) ∧ (OwnSl w' 23 (a_69) (c_70) (([] : List Peer) ++ ([(⟨(m).frm, 0, 1⟩ : Peer)] : List Peer))) ∧ (OwnSl w' 90 (aL_47) (cL_48) (knownL (learnT (passT T t) (⟨(m).frm, 0, 1⟩ : Peer)).l)) ∧ (OwnSl w' 98 (aP_49) (cP_50) ((learnT (passT T t) (⟨(m).frm, 0, 1⟩ : Peer)).pings)) ∧ (OwnSl w' 98 al1 cl1 (((learnT (passT T t) (⟨(m).frm, 0, 1⟩ : Peer)).pings.take i).filter (fun p => !((p.target == m.owner) && (p.req == m.req))))) ∧ (¬ own al1 b_1) ∧ (¬ own al1 b_32) ∧ (¬ own al1 b) ∧ (∀ q_, own al1 q_ → ¬ own (some ⟨b_58, 0, none⟩) q_) ∧ (∀ q_, own al1 q_ → ¬ own a_69 q_) ∧ (∀ q_, own al1 q_ → ¬ own aL_47 q_) ∧ (∀ q_, own al1 q_ → ¬ own aP_49 q_) ∧ (∀ q_, own al1 q_ → q_ < w.heap.size → (rtabS b aL aP) q_) ∧ (∀ q_, own al1 q_ → w.heap.size ≤ q_) ∧ (i ≤ (learnT (passT T t) (⟨(m).frm, 0, 1⟩ : Peer)).pings.length)) (fun i => (learnT (passT T t) (⟨(m).frm, 0, 1⟩ : Peer)).pings.length - i) 0 ?_ ?_
          · rw [show (((learnT (passT T t) (⟨(m).frm, 0, 1⟩ : Peer)).pings.take 0).filter (fun p => !((p.target == m.owner) && (p.req == m.req)))) = [] from by simp]
            have ho_182 := OwnSl.nil (α := Ping) w_168 98
            refine ⟨_, _, ⟨rfl, rfl, rfl, rfl, rfl, trivial⟩, K0, hb_4, hb_35, hb82, ho_61, ho_72, hoL82, hoP82, ho_182, (own_none b_1), (own_none b_32), (own_none b), (fun q_ h1 _ => own_none q_ h1), (fun q_ h1 _ => own_none q_ h1), (fun q_ h1 _ => own_none q_ h1), (fun q_ h1 _ => own_none q_ h1), (fun q_ h1 _ => absurd h1 (own_none q_)), (fun q_ h1 => absurd h1 (own_none q_)), ?_⟩
            · omega
          clear hb_4 hb_35 ho_61 ho_72 hb82 hoL82 hoP82
          clear K0
          rintro i ρ_183 w_170 ⟨al1, cl1, hH_171, K0, hb_4, hb_35, hb82, ho_61, ho_72, hoL82, hoP82, ho_172, pr_173, pr_174, pr_175, pr_176, pr_177, pr_178, pr_179, pr_180, pr_181, hi⟩ ih1
          obtain ⟨ρ₀, rfl⟩ := hH_171.ex
          clear hH_171
          refine Run.seq ?_
          refine Run.seq ?_
          refine Run.region ?_
          refine RL.val (x_moveI rfl) ?_
          refine RL.val (x_moveP rfl) ?_
          refine RL.val (x_nilCheck rfl) ?_
          refine RL.val (x_fld (o' := 3) Try.underlying94 rfl ty92 rfl rfl rfl) ?_
          refine RL.val (x_ld (v := .slice (aP_49) ((learnT (passT T t) (⟨(m).frm, 0, 1⟩ : Peer)).pings.length) (cP_50)) ty92 rfl rfl (hb82.cl.field (i := 3) rfl)) ?_
          refine RL.val (x_lenSl Try.underlying92 rfl) ?_
          refine RL.val (x_ltI rfl rfl) ?_
          refine RL.nil ?_
          refine Run.cond rfl (fun hc122 => ?_) (fun hc122 => ?_)
          · try simp only [br] at hc122
            refine Run.skip ?_
            refine Run.seq ?_
            refine Run.block ?_
            refine Run.seq ?_
            obtain ⟨b_186, o_187, y, hy, ha_188, hc_189⟩ := hoP82.sl.el (i := i) (by first | omega | (simp only [List.length_set]; omega))
            obtain ⟨b_192, o_193, x_196, hx_197, ha_194, hc_195⟩ := hoP82.sl.el (i := i) (by first | omega | (simp only [List.length_set]; omega))
            obtain rfl : y = x_196 := Option.some.inj (hy.symm.trans hx_197)
            refine Run.draw' (m := 24) (by kernel_rfl) rfl ?_
            intro w_184 K_185
            replace hb_4 := hb_4.ext K_185
            replace hb_35 := hb_35.ext K_185
            replace hb82 := hb82.ext K_185
            replace ho_61 := ho_61.ext K_185
            replace ho_72 := ho_72.ext K_185
            replace hoL82 := hoL82.ext K_185
            replace hoP82 := hoP82.ext K_185
            replace ho_172 := ho_172.ext K_185
            replace hc_189 := hc_189.ext K_185
            replace hc_195 := hc_195.ext K_185
            replace K0 := K0.ext K_185
            refine RA.take (v := .pointer (some ⟨b, 0, none⟩)) 0 rfl (by kernel_rfl) rfl (by rintro _ rfl; exact (x_moveP rfl)) ?_
            refine RA.take (v := .pointer (some ⟨b, 0, none⟩)) 1 rfl (by kernel_rfl) rfl (by rintro _ rfl; exact (x_nilCheck rfl)) ?_
            refine RA.take (v := .pointer (some ⟨b, 3, none⟩)) 2 rfl (by kernel_rfl) rfl (by rintro _ rfl; exact (x_fld (o' := 3) Try.underlying94 rfl ty92 rfl rfl rfl)) ?_
            refine RA.take (v := .slice (aP_49) ((learnT (passT T t) (⟨(m).frm, 0, 1⟩ : Peer)).pings.length) (cP_50)) 3 rfl (by kernel_rfl) rfl (by rintro _ rfl; exact (x_ld (v := .slice (aP_49) ((learnT (passT T t) (⟨(m).frm, 0, 1⟩ : Peer)).pings.length) (cP_50)) ty92 rfl rfl (hb82.cl.field (i := 3) rfl))) ?_
            refine RA.take (v := .int .i64 (((i : Nat) : Int))) 4 rfl (by kernel_rfl) rfl (by rintro _ rfl; exact (x_moveI rfl)) ?_
            refine RA.take (v := .pointer (some ⟨b_186, o_187 + i * 4, none⟩)) 5 rfl (by kernel_rfl) rfl (by rintro _ rfl; exact (x_idxN Try.underlying92 ty98 rfl rfl ha_188 (by first | omega | (simp only [List.length_set]; omega)))) ?_
            refine RA.take (v := .pointer (some ⟨b_186, o_187 + i * 4 + 0, none⟩)) 6 rfl (by kernel_rfl) rfl (by rintro _ rfl; exact (x_fld (o' := o_187 + i * 4 + 0) Try.underlying98 rfl ty3 rfl rfl rfl)) ?_
            refine RA.take (v := .int .i64 ((y).target)) 7 rfl (by kernel_rfl) rfl (by rintro _ rfl; exact (x_ld ty3 rfl rfl (hc_189.field (i := 0) rfl))) ?_
            refine RA.take (v := .pointer (some ⟨b_1, 8, none⟩)) 8 rfl (by kernel_rfl) rfl (by rintro _ rfl; exact (x_fld (o' := 8) Try.underlying61 rfl ty3 rfl rfl rfl)) ?_
            refine RA.take (v := .int .i64 ((m).owner)) 9 rfl (by kernel_rfl) rfl (by rintro _ rfl; exact (x_ld (v := .int .i64 ((m).owner)) ty3 rfl rfl (hb_4.cl.field (i := 8) rfl))) ?_
            refine RA.take (v := .bool (((y).target) != ((m).owner))) 10 rfl (by kernel_rfl) rfl (by rintro _ rfl; exact (x_neI rfl rfl)) ?_
            refine RA.take (v := .bool (((y).target) != ((m).owner))) 11 rfl (by kernel_rfl) rfl (by rintro _ rfl; exact (x_moveB rfl)) ?_
            refine RA.gtake (v := .pointer (some ⟨b, 0, none⟩)) 12 rfl (by kernel_rfl) rfl (wantedF rfl rfl rfl rfl) (fun hg => by rintro _ rfl; exact (x_moveP rfl)) ?_
            refine RA.gtake (v := .pointer (some ⟨b, 0, none⟩)) 13 rfl (by kernel_rfl) rfl (wantedF rfl rfl rfl rfl) (fun hg => by rintro _ rfl; exact (x_nilCheck (gvr hg))) ?_
            refine RA.gtake (v := .pointer (some ⟨b, 3, none⟩)) 14 rfl (by kernel_rfl) rfl (wantedF rfl rfl rfl rfl) (fun hg => by rintro _ rfl; exact (x_fld (o' := 3) Try.underlying94 rfl ty92 rfl (gvr hg) rfl)) ?_
            refine RA.gtake (v := .slice (aP_49) ((learnT (passT T t) (⟨(m).frm, 0, 1⟩ : Peer)).pings.length) (cP_50)) 15 rfl (by kernel_rfl) rfl (wantedF rfl rfl rfl rfl) (fun hg => by rintro _ rfl; exact (x_ld (v := .slice (aP_49) ((learnT (passT T t) (⟨(m).frm, 0, 1⟩ : Peer)).pings.length) (cP_50)) ty92 (gvr hg) rfl (hb82.cl.field (i := 3) rfl))) ?_
            refine RA.gtake (v := .int .i64 (((i : Nat) : Int))) 16 rfl (by kernel_rfl) rfl (wantedF rfl rfl rfl rfl) (fun hg => by rintro _ rfl; exact (x_moveI rfl)) ?_
            refine RA.gtake (v := .pointer (some ⟨b_192, o_193 + i * 4, none⟩)) 17 rfl (by kernel_rfl) rfl (wantedF rfl rfl rfl rfl) (fun hg => by rintro _ rfl; exact (x_idxN Try.underlying92 ty98 (gvr hg) (gvr hg) ha_194 (by first | omega | (simp only [List.length_set]; omega)))) ?_
            refine RA.gtake (v := .pointer (some ⟨b_192, o_193 + i * 4 + 1, none⟩)) 18 rfl (by kernel_rfl) rfl (wantedF rfl rfl rfl rfl) (fun hg => by rintro _ rfl; exact (x_fld (o' := o_193 + i * 4 + 1) Try.underlying98 rfl ty3 rfl (gvr hg) rfl)) ?_
            refine RA.gtake (v := .int .i64 ((y).req)) 19 rfl (by kernel_rfl) rfl (wantedF rfl rfl rfl rfl) (fun hg => by rintro _ rfl; exact (x_ld ty3 (gvr hg) rfl (hc_195.field (i := 1) rfl))) ?_
            refine RA.gtake (v := .pointer (some ⟨b_1, 3, none⟩)) 20 rfl (by kernel_rfl) rfl (wantedF rfl rfl rfl rfl) (fun hg => by rintro _ rfl; exact (x_fld (o' := 3) Try.underlying61 rfl ty3 rfl rfl rfl)) ?_
            refine RA.gtake (v := .int .i64 ((m).req)) 21 rfl (by kernel_rfl) rfl (wantedF rfl rfl rfl rfl) (fun hg => by rintro _ rfl; exact (x_ld (v := .int .i64 ((m).req)) ty3 (gvr hg) rfl (hb_4.cl.field (i := 3) rfl))) ?_
            refine RA.gtake (v := .bool (((y).req) != ((m).req))) 22 rfl (by kernel_rfl) rfl (wantedF rfl rfl rfl rfl) (fun hg => by rintro _ rfl; exact (x_neI (gvr hg) (gvr hg))) ?_
            refine RA.take (v := .bool ((((y).target) != ((m).owner)) || (((y).req) != ((m).req)))) 23 rfl (by kernel_rfl) rfl (by rintro _ rfl; exact (x_or rfl rfl rfl)) ?_
            refine RA.done (by kernel_rfl) ?_
            refine Run.cond rfl (fun hc148 => ?_) (fun hc148 => ?_)
            · try simp only [br] at hc148
              have hfl := filt_len (f := (fun p => !((p.target == m.owner) && (p.req == m.req)))) (l := (learnT (passT T t) (⟨(m).frm, 0, 1⟩ : Peer)).pings) (i := i)
              refine Run.region ?_
              refine RL.val (x_moveSl rfl) ?_
              refine RL.val (x_moveP rfl) ?_
              refine RL.val (x_nilCheck rfl) ?_
              refine RL.val (x_fld (o' := 3) Try.underlying94 rfl ty92 rfl rfl rfl) ?_
              refine RL.val (x_ld (v := .slice (aP_49) ((learnT (passT T t) (⟨(m).frm, 0, 1⟩ : Peer)).pings.length) (cP_50)) ty92 rfl rfl (hb82.cl.field (i := 3) rfl)) ?_
              refine RL.val (x_moveI rfl) ?_
              obtain ⟨b_198, o_199, x_202, hx_203, ha_200, hc_201⟩ := hoP82.sl.el (i := i) (by first | omega | (simp only [List.length_set]; omega))
              obtain rfl : y = x_202 := Option.some.inj (hy.symm.trans hx_203)
              refine RL.val (x_idxN Try.underlying92 ty98 rfl rfl ha_200 (by first | omega | (simp only [List.length_set]; omega))) ?_
              refine RL.val (x_ldV (v := .agg #[.int .i64 ((y).target), .int .i64 ((y).req), .int .i64 ((y).since), .bool ((y).others)]) (y := y) ty98 rfl hc_201 rfl) ?_
              refine RL.st rfl <| St1.buildSlice ([y] : List Ping) Try.underlying92 ty98 rfl rfl (by first | decide | (simp [Enc.size])) ?_
              intro b_204 w_205 hl_208 ho_207 K_206
              have pr_209 : ¬ own (some ⟨b_204, 0, none⟩) b_1 := notNew (ge_new hl_208) hb_4.lt
              have pr_210 : ¬ own (some ⟨b_204, 0, none⟩) b_32 := notNew (ge_new hl_208) hb_35.lt
              have pr_211 : ¬ own (some ⟨b_204, 0, none⟩) b := notNew (ge_new hl_208) hb82.lt
              have pr_212 : ∀ q_, own (some ⟨b_204, 0, none⟩) q_ → ¬ own (some ⟨b_58, 0, none⟩) q_ := apartNew (ge_new hl_208) ho_61.own_lt
              have pr_213 : ∀ q_, own (some ⟨b_204, 0, none⟩) q_ → ¬ own a_69 q_ := apartNew (ge_new hl_208) ho_72.own_lt
              have pr_214 : ∀ q_, own (some ⟨b_204, 0, none⟩) q_ → ¬ own aL_47 q_ := apartNew (ge_new hl_208) hoL82.own_lt
              have pr_215 : ∀ q_, own (some ⟨b_204, 0, none⟩) q_ → ¬ own aP_49 q_ := apartNew (ge_new hl_208) hoP82.own_lt
              have pr_216 : ∀ q_, own (some ⟨b_204, 0, none⟩) q_ → ¬ own al1 q_ := apartNew (ge_new hl_208) ho_172.own_lt
              have pg_217 : ∀ q_, own (some ⟨b_204, 0, none⟩) q_ → q_ < w.heap.size → (rtabS b aL aP) q_ := fun q_ h hlt => absurd (Nat.le_trans K0.size ((ge_new hl_208) q_ h)) (by omega)
              have pw_218 : ∀ q_, own (some ⟨b_204, 0, none⟩) q_ → w.heap.size ≤ q_ := fun q_ h => Nat.le_trans K0.size ((ge_new hl_208) q_ h)
              clear hl_208
              replace hb_4 := hb_4.ext K_206
              replace hb_35 := hb_35.ext K_206
              replace hb82 := hb82.ext K_206
              replace ho_61 := ho_61.ext K_206
              replace ho_72 := ho_72.ext K_206
              replace hoL82 := hoL82.ext K_206
              replace hoP82 := hoP82.ext K_206
              replace ho_172 := ho_172.ext K_206
              replace hc_201 := hc_201.ext K_206
              replace K0 := K0.ext K_206
              refine RL.st rfl <| St1.append (xs := ((learnT (passT T t) (⟨(m).frm, 0, 1⟩ : Peer)).pings.take i).filter (fun p => !((p.target == m.owner) && (p.req == m.req)))) (ys := ([y] : List Ping)) Try.underlying92 ty98 rfl rfl rfl ho_172 ho_207.sl (by first | omega | (simp only [lr]; omega)) (by decide) ?_
              intro a_219 c_220 w_221 ho_222 K_223 hm_224 hrm_225
              have pr_226 : ¬ own a_219 b_1 := hm_224.not pr_173 hb_4.lt
              have pr_227 : ¬ own a_219 b_32 := hm_224.not pr_174 hb_35.lt
              have pr_228 : ¬ own a_219 b := hm_224.not pr_175 hb82.lt
              have pr_229 : ∀ q_, own a_219 q_ → ¬ own (some ⟨b_58, 0, none⟩) q_ := hm_224.apart pr_176 ho_61.own_lt
              have pr_230 : ∀ q_, own a_219 q_ → ¬ own a_69 q_ := hm_224.apart pr_177 ho_72.own_lt
              have pr_231 : ∀ q_, own a_219 q_ → ¬ own aL_47 q_ := hm_224.apart pr_178 hoL82.own_lt
              have pr_232 : ∀ q_, own a_219 q_ → ¬ own aP_49 q_ := hm_224.apart pr_179 hoP82.own_lt
              have pr_233 : ∀ q_, own a_219 q_ → ¬ own (some ⟨b_204, 0, none⟩) q_ := hm_224.apart (fun q_ h1 h2 => pr_216 q_ h2 h1) ho_207.own_lt
              have pg_234 : ∀ q_, own a_219 q_ → q_ < w.heap.size → (rtabS b aL aP) q_ := hm_224.inS pr_180 K0.size
              have pw_235 : ∀ q_, own a_219 q_ → w.heap.size ≤ q_ := hm_224.ge pr_181 K0.size
              replace hb_4 := hb_4.keep K_223 pr_173
              replace hb_35 := hb_35.keep K_223 pr_174
              replace hb82 := hb82.keep K_223 pr_175
              replace ho_61 := ho_61.keepO K_223 (fun q_ h1 h2 => pr_176 q_ h2 h1)
              replace ho_72 := ho_72.keepO K_223 (fun q_ h1 h2 => pr_177 q_ h2 h1)
              replace hoL82 := hoL82.keepO K_223 (fun q_ h1 h2 => pr_178 q_ h2 h1)
              replace hoP82 := hoP82.keepO K_223 (fun q_ h1 h2 => pr_179 q_ h2 h1)
              replace hc_201 := hc_201.keep K_223 (fun h => (fun q_ h1 h2 => pr_179 q_ h2 h1) _ ((own_sub _) _ ha_200) h)
              replace ho_207 := ho_207.keepO K_223 pr_216
              replace K0 := K0.trans K_223 (fun x hlt hx => pr_180 x hx hlt)
              clear hm_224
              clear hrm_225
              refine RL.val (x_assignSl rfl) ?_
              refine RL.nil ?_
              refine Run.inBlock ?_
              refine Run.region ?_
              refine RL.val (x_moveI rfl) ?_
              refine RL.val (litI (c := ((i + 1 : Nat) : Int)) (x_add rfl rfl (by omega) (by omega)) rfl) ?_
              refine RL.val (x_assignI rfl) ?_
              refine RL.nil ?_
              have e := filt_yes (f := (fun p => !((p.target == m.owner) && (p.req == m.req)))) hy (by simpa using hc148)
              refine ih1 (i + 1) _ _ ?_ (by omega)
              rw [e]
              refine ⟨_, _, ⟨rfl, rfl, rfl, rfl, rfl, trivial⟩, K0, hb_4, hb_35, hb82, ho_61, ho_72, hoL82, hoP82, ho_222, pr_226, pr_227, pr_228, pr_229, pr_230, pr_231, pr_232, pg_234, pw_235, ?_⟩
              · omega
            · try simp only [br] at hc148
              refine Run.skip ?_
              refine Run.inBlock ?_
              refine Run.region ?_
              refine RL.val (x_moveI rfl) ?_
              refine RL.val (litI (c := ((i + 1 : Nat) : Int)) (x_add rfl rfl (by omega) (by omega)) rfl) ?_
              refine RL.val (x_assignI rfl) ?_
              refine RL.nil ?_
              have e := filt_no (f := (fun p => !((p.target == m.owner) && (p.req == m.req)))) hy (by simp; omega)
              refine ih1 (i + 1) _ _ ?_ (by omega)
              rw [e]
              refine ⟨_, _, ⟨rfl, rfl, rfl, rfl, rfl, trivial⟩, K0, hb_4, hb_35, hb82, ho_61, ho_72, hoL82, hoP82, ho_172, pr_173, pr_174, pr_175, pr_176, pr_177, pr_178, pr_179, pr_180, pr_181, ?_⟩
              · omega
          · try simp only [br] at hc122
            refine Run.exit rfl ?_
            refine Run.seq ?_
            refine Run.region ?_
            refine RL.val (x_moveP rfl) ?_
            refine RL.val (x_moveSl rfl) ?_
            refine RL.val (x_nilCheck rfl) ?_
            refine RL.val (x_fld (o' := 3) Try.underlying94 rfl ty92 rfl rfl rfl) ?_
            refine RL.st rfl <| St1.store (v := .slice (al1) ((((learnT (passT T t) (⟨(m).frm, 0, 1⟩ : Peer)).pings.take i).filter (fun p => !((p.target == m.owner) && (p.req == m.req)))).length) (cl1)) ty92 rfl rfl rfl (by simp [Value.cells, Value.oneCell']) hb82 (by simp) ?_
            intro w_236 hb82_ K_237
            have hb82' : Blk w_236 b [.int .i64 ((learnT (passT T t) (⟨(m).frm, 0, 1⟩ : Peer)).self), .int .i64 ((learnT (passT T t) (⟨(m).frm, 0, 1⟩ : Peer)).now), .slice (aL_47) ((knownL (learnT (passT T t) (⟨(m).frm, 0, 1⟩ : Peer)).l).length) (cL_48), .slice (al1) ((((learnT (passT T t) (⟨(m).frm, 0, 1⟩ : Peer)).pings.take i).filter (fun p => !((p.target == m.owner) && (p.req == m.req)))).length) (cl1), .int .i64 ((learnT (passT T t) (⟨(m).frm, 0, 1⟩ : Peer)).req), .bool ((learnT (passT T t) (⟨(m).frm, 0, 1⟩ : Peer)).begun), .int .i64 ((learnT (passT T t) (⟨(m).frm, 0, 1⟩ : Peer)).last), .int .i64 ((learnT (passT T t) (⟨(m).frm, 0, 1⟩ : Peer)).target)] 94 := hb82_
            clear hb82_
            replace hb_4 := hb_4.keep K_237 (by simp only [one]; omega)
            replace hb_35 := hb_35.keep K_237 (by simp only [one]; omega)
            replace ho_61 := ho_61.keepO K_237 (fun q_ hq_ eq_ => (fun h2 => (fun q_ h1 h2 => pr_65 q_ h2 h1) _ (.inl rfl) h2) (by simp only [one] at eq_; rw [← eq_]; exact hq_))
            replace ho_72 := ho_72.keepO K_237 (fun q_ hq_ eq_ => (fun h2 => (fun q_ h1 h2 => pr_78 q_ h2 h1) _ (.inl rfl) h2) (by simp only [one] at eq_; rw [← eq_]; exact hq_))
            replace hoL82 := hoL82.keepO K_237 (fun q_ hq_ eq_ => hapL82 (by simp only [one] at eq_; rw [← eq_]; exact hq_))
            replace hoP82 := hoP82.keepO K_237 (fun q_ hq_ eq_ => hapP82 (by simp only [one] at eq_; rw [← eq_]; exact hq_))
            replace ho_172 := ho_172.keepO K_237 (fun q_ hq_ eq_ => pr_175 (by simp only [one] at eq_; rw [← eq_]; exact hq_))
            replace K0 := K0.trans K_237 (fun x _ hx => by simp only [one] at hx; subst hx; exact (Or.inl rfl))
            replace hb82 := hb82'
            clear hb82'
            refine RL.nil ?_
            refine Run.seq ?_
            refine Run.region ?_
            refine RL.val (x_moveSl rfl) ?_
            refine RL.val (x_assignSl rfl) ?_
            refine RL.val (x_assignSl rfl) ?_
            refine RL.nil ?_
            refine Run.ret2 (v := .slice (none) (0) (0)) (x := .slice (a_69) ((([] : List Peer) ++ ([(⟨(m).frm, 0, 1⟩ : Peer)] : List Peer)).length) (c_70)) Try.func35 rfl rfl rfl ?_
            have ho_238 := OwnSl.nil (α := MsgC) w_236 61
            have hil : i = (learnT (passT T t) (⟨(m).frm, 0, 1⟩ : Peer)).pings.length := by omega
            rw [hil, List.take_length] at hb82 ho_172
            have e := on_pong (T := T) (t := t) hno hc56
            rw [meet_new hk hks] at e
            dsimp only at e
            have e' : pongedT (learnT (passT T t) (⟨(m).frm, 0, 1⟩ : Peer)) m = ({ learnT (passT T t) (⟨(m).frm, 0, 1⟩ : Peer) with pings := (learnT (passT T t) (⟨(m).frm, 0, 1⟩ : Peer)).pings.filter (fun p => !((p.target == m.owner) && (p.req == m.req))) }, ([] : List MsgC)) := by rw [pongedT, if_pos hc115]; first | done | rfl
            rw [e'] at e
            have hpo := (ponged_ok (m := m) ok82).1
            rw [e'] at hpo
            have hR_239 : RTabAt w_236 b aL_47 cL_48 al1 cl1 ({ learnT (passT T t) (⟨(m).frm, 0, 1⟩ : Peer) with pings := (learnT (passT T t) (⟨(m).frm, 0, 1⟩ : Peer)).pings.filter (fun p => !((p.target == m.owner) && (p.req == m.req))) }) := ⟨hb82, hoL82, ho_172, hapL82, pr_175, (fun q_ h1 h2 => pr_178 q_ h2 h1), hpo, ⟨nv82.self, nv82.own, fun q hq => nv82.far q (List.mem_filter.1 hq).1⟩⟩
            have pt_240 : ¬ rtabS b aL_47 al1 b_1 := (fun h1 => h1.elim (fun e => absurd e (by omega)) (fun h1 => h1.elim (fun h => (fun h1 => pr_55 (.inr (.inl h1))) h) (fun h => pr_173 h)))
            have pt_241 : ¬ rtabS b aL_47 al1 b_32 := (fun h1 => h1.elim (fun e => absurd e (by omega)) (fun h1 => h1.elim (fun h => (fun h1 => pr_56 (.inr (.inl h1))) h) (fun h => pr_174 h)))
            have pt_242 : ∀ q_, rtabS b aL_47 al1 q_ → ¬ own (some ⟨b_58, 0, none⟩) q_ := (fun q_ h1 h2 => h1.elim (fun e => (fun h2 => (fun q_ h1 h2 => pr_65 q_ h2 h1) _ (.inl rfl) h2) (e ▸ h2)) (fun h1 => h1.elim (fun h => (fun q_ h1 h2 => (fun q_ h1 h2 => pr_65 q_ h2 h1) q_ (.inr (.inl h1)) h2) q_ h h2) (fun h => pr_176 q_ h h2)))
            have pt_243 : ∀ q_, rtabS b aL_47 al1 q_ → ¬ own a_69 q_ := (fun q_ h1 h2 => h1.elim (fun e => (fun h2 => (fun q_ h1 h2 => pr_78 q_ h2 h1) _ (.inl rfl) h2) (e ▸ h2)) (fun h1 => h1.elim (fun h => (fun q_ h1 h2 => (fun q_ h1 h2 => pr_78 q_ h2 h1) q_ (.inr (.inl h1)) h2) q_ h h2) (fun h => pr_177 q_ h h2)))
            have pt_244 : ∀ q_, rtabS b aL_47 al1 q_ → ¬ own aP_49 q_ := (fun q_ h1 h2 => h1.elim (fun e => hapP82 (e ▸ h2)) (fun h1 => h1.elim (fun h => hapLP82 q_ h h2) (fun h => pr_179 q_ h h2)))
            have pt_245 : ∀ q_, rtabS b aL_47 al1 q_ → ¬ own none q_ := (fun q_ h1 h2 => h1.elim (fun e => (own_none b) (e ▸ h2)) (fun h1 => h1.elim (fun h => (fun q_ h1 h2 => (fun q_ h1 _ => own_none q_ h1) q_ h2 h1) q_ h h2) (fun h => (fun q_ h1 h2 => (fun q_ h1 _ => own_none q_ h1) q_ h2 h1) q_ h h2)))
            have pt_246 : ∀ q_, rtabS b aL_47 al1 q_ → q_ < w.heap.size → (rtabS b aL aP) q_ := (fun q_ h1 hlt => h1.elim (fun e => e ▸ (Or.inl rfl)) (fun h1 => h1.elim (fun h => (fun q_ h1 hlt => pg_57 q_ (.inr (.inl h1)) hlt) q_ h hlt) (fun h => pr_180 q_ h hlt)))
            clear hb82 hoL82 ho_172
            have e1 : (on T m t).T = { learnT (passT T t) (⟨(m).frm, 0, 1⟩ : Peer) with pings := (learnT (passT T t) (⟨(m).frm, 0, 1⟩ : Peer)).pings.filter (fun p => !((p.target == m.owner) && (p.req == m.req))) } := by rw [e]
            have e2 : (on T m t).out = ([] : List MsgC) := by rw [e]
            have e3 : (on T m t).told = ([] : List Peer) ++ ([(⟨(m).frm, 0, 1⟩ : Peer)] : List Peer) := by rw [e]; try rfl
            rw [e1, e2, e3]
            exact ⟨_, rfl, aL_47, cL_48, al1, cl1, none, 0, a_69, c_70, rfl, hR_239, ho_238, ho_72, (fun q_ h1 => absurd h1 (own_none q_)), pw_81, (fun q_ h1 h2 => pt_245 q_ h2 h1), (fun q_ h1 h2 => pt_243 q_ h2 h1), (fun q_ h1 _ => own_none q_ h1), rtabMoved' (fun x hx hlt => pt_246 x (.inr (.inl hx)) hlt) (fun x hx hlt => pt_246 x (.inr (.inr hx)) hlt), K0⟩
        · try simp only [br] at hc115
          refine Run.skip ?_
          refine Run.seq ?_
          refine Run.seq ?_
          refine Run.region ?_
          refine RL.val (x_fld (o' := 10) Try.underlying61 rfl ty3 rfl rfl rfl) ?_
          refine RL.val (x_ld (v := .int .i64 ((m).n)) ty3 rfl rfl (hb_4.cl.field (i := 10) rfl)) ?_
          refine RL.st rfl <| St1.call (vals := [.int .i64 ((m).n)]) en55 rfl (node_ ((m).n) _) ?_
          rintro _ w_247 ⟨rfl, K_248⟩
          replace hb_4 := hb_4.ext K_248
          replace hb_35 := hb_35.ext K_248
          replace ho_61 := ho_61.ext K_248
          replace ho_72 := ho_72.ext K_248
          replace hb82 := hb82.ext K_248
          replace hoL82 := hoL82.ext K_248
          replace hoP82 := hoP82.ext K_248
          replace K0 := K0.ext K_248
          refine RL.nil ?_
          refine Run.cond rfl (fun hc166 => ?_) (fun hc166 => ?_)
          · try simp only [br] at hc166
            refine Run.seq ?_
            refine Run.drawT [] (m := 15) (by kernel_rfl) rfl ?_
            intro w_249 K_250
            replace hb_4 := hb_4.ext K_250
            replace hb_35 := hb_35.ext K_250
            replace ho_61 := ho_61.ext K_250
            replace ho_72 := ho_72.ext K_250
            replace hb82 := hb82.ext K_250
            replace hoL82 := hoL82.ext K_250
            replace hoP82 := hoP82.ext K_250
            replace K0 := K0.ext K_250
            refine ⟨fun w' => Blk w' b_1 [.int .i64 ((m).kind), .int .i64 ((m).frm), .int .i64 ((m).to), .int .i64 ((m).req), .string ((m).key), .slice ((m).entries.a) ((m).entries.len) ((m).entries.cap), .slice ((m).marks.a) ((m).marks.len) ((m).marks.cap), .slice ((m).cloud.a) ((m).cloud.len) ((m).cloud.cap), .int .i64 ((m).owner), .int .i64 ((m).part), .int .i64 ((m).n), .int .i64 ((m).rparts), .int .i64 ((m).rcopies), .int .i64 ((m).rspots), .slice ((m).members.a) ((m).members.len) ((m).members.cap), .slice ((m).peers.a) ((m).peers.len) ((m).peers.cap), .slice ((m).sums.a) ((m).sums.len) ((m).sums.cap)] 61 ∧ Blk w' b [.int .i64 ((learnT (passT T t) (⟨(m).frm, 0, 1⟩ : Peer)).self), .int .i64 ((learnT (passT T t) (⟨(m).frm, 0, 1⟩ : Peer)).now), .slice (aL_47) ((knownL (learnT (passT T t) (⟨(m).frm, 0, 1⟩ : Peer)).l).length) (cL_48), .slice (aP_49) ((learnT (passT T t) (⟨(m).frm, 0, 1⟩ : Peer)).pings.length) (cP_50), .int .i64 ((learnT (passT T t) (⟨(m).frm, 0, 1⟩ : Peer)).req), .bool ((learnT (passT T t) (⟨(m).frm, 0, 1⟩ : Peer)).begun), .int .i64 ((learnT (passT T t) (⟨(m).frm, 0, 1⟩ : Peer)).last), .int .i64 ((learnT (passT T t) (⟨(m).frm, 0, 1⟩ : Peer)).target)] 94 ∧ True, ?_⟩
            refine RT.takeP (v := .pointer (some ⟨b, 0, none⟩)) 0 rfl (by kernel_rfl) (.inr ⟨hb_4, hb82, trivial⟩) (fun _ => (x_moveP rfl)) ?_
            refine RT.takeP (v := .pointer (some ⟨b, 0, none⟩)) 1 rfl (by kernel_rfl) (.inr ⟨hb_4, hb82, trivial⟩) (fun _ => (x_nilCheck rfl)) ?_
            refine RT.takeP (v := .pointer (some ⟨b, 0, none⟩)) 2 rfl (by kernel_rfl) (.inr ⟨hb_4, hb82, trivial⟩) (fun _ => (x_fld (o' := 0) Try.underlying94 rfl ty3 rfl rfl rfl)) ?_
            refine RT.take (v := .int .i64 ((learnT (passT T t) (⟨(m).frm, 0, 1⟩ : Peer)).self)) 3 rfl (by kernel_rfl) ⟨hb_4, hb82, trivial⟩ (by rintro _ ⟨hb_4, hb82, -⟩; exact (x_ld (v := .int .i64 ((learnT (passT T t) (⟨(m).frm, 0, 1⟩ : Peer)).self)) ty3 rfl rfl (hb82.cl.field (i := 0) rfl))) ?_
            refine RT.takeP (v := .pointer (some ⟨b_1, 10, none⟩)) 4 rfl (by kernel_rfl) (.inr ⟨hb_4, hb82, trivial⟩) (fun _ => (x_fld (o' := 10) Try.underlying61 rfl ty3 rfl rfl rfl)) ?_
            refine RT.take (v := .int .i64 ((m).n)) 5 rfl (by kernel_rfl) ⟨hb_4, hb82, trivial⟩ (by rintro _ ⟨hb_4, hb82, -⟩; exact (x_ld (v := .int .i64 ((m).n)) ty3 rfl rfl (hb_4.cl.field (i := 10) rfl))) ?_
            refine RT.takeP (v := .pointer (some ⟨b_1, 3, none⟩)) 6 rfl (by kernel_rfl) (.inr ⟨hb_4, hb82, trivial⟩) (fun _ => (x_fld (o' := 3) Try.underlying61 rfl ty3 rfl rfl rfl)) ?_
            refine RT.take (v := .int .i64 ((m).req)) 7 rfl (by kernel_rfl) ⟨hb_4, hb82, trivial⟩ (by rintro _ ⟨hb_4, hb82, -⟩; exact (x_ld (v := .int .i64 ((m).req)) ty3 rfl rfl (hb_4.cl.field (i := 3) rfl))) ?_
            refine RT.takeP (v := .pointer (some ⟨b_1, 8, none⟩)) 8 rfl (by kernel_rfl) (.inr ⟨hb_4, hb82, trivial⟩) (fun _ => (x_fld (o' := 8) Try.underlying61 rfl ty3 rfl rfl rfl)) ?_
            refine RT.take (v := .int .i64 ((m).owner)) 9 rfl (by kernel_rfl) ⟨hb_4, hb82, trivial⟩ (by rintro _ ⟨hb_4, hb82, -⟩; exact (x_ld (v := .int .i64 ((m).owner)) ty3 rfl rfl (hb_4.cl.field (i := 8) rfl))) ?_
            refine RT.takeP (v := .agg #[.int .i64 (7), .int .i64 ((learnT (passT T t) (⟨(m).frm, 0, 1⟩ : Peer)).self), .int .i64 ((m).n), .int .i64 ((m).req), .string (⟨#[]⟩), .slice (none) (0) (0), .slice (none) (0) (0), .slice (none) (0) (0), .int .i64 ((m).owner), .int .i64 (0), .int .i64 (-1), .int .i64 (0), .int .i64 (0), .int .i64 (0), .slice (none) (0) (0), .slice (none) (0) (0), .slice (none) (0) (0)]) 10 rfl (by kernel_rfl) (.inr ⟨hb_4, hb82, trivial⟩) (fun _ => (x_build (cells := #[.int .i64 (7), .int .i64 ((learnT (passT T t) (⟨(m).frm, 0, 1⟩ : Peer)).self), .int .i64 ((m).n), .int .i64 ((m).req), .string (⟨#[]⟩), .slice (none) (0) (0), .slice (none) (0) (0), .slice (none) (0) (0), .int .i64 ((m).owner), .int .i64 (0), .int .i64 (-1), .int .i64 (0), .int .i64 (0), .int .i64 (0), .slice (none) (0) (0), .slice (none) (0) (0), .slice (none) (0) (0)]) (by kernel_rfl))) ?_
            refine RT.takeP (v := .slice (a_69) ((([] : List Peer) ++ ([(⟨(m).frm, 0, 1⟩ : Peer)] : List Peer)).length) (c_70)) 12 rfl (by kernel_rfl) (.inr ⟨hb_4, hb82, trivial⟩) (fun _ => (x_moveSl rfl)) ?_
            refine RT.st 11 rfl (by kernel_rfl) rfl <| St1.buildSlice ([(⟨7, (learnT (passT T t) (⟨(m).frm, 0, 1⟩ : Peer)).self, (m).n, (m).req, ⟨#[]⟩, ⟨none, 0, 0⟩, ⟨none, 0, 0⟩, ⟨none, 0, 0⟩, (m).owner, 0, -1, 0, 0, 0, ⟨none, 0, 0⟩, ⟨none, 0, 0⟩, ⟨none, 0, 0⟩⟩ : MsgC)] : List MsgC) Try.underlying34 ty61 rfl rfl (by first | decide | (simp [Enc.size])) ?_
            intro b_251 w_252 hl_255 ho_254 K_253
            have pr_256 : ¬ own (some ⟨b_251, 0, none⟩) b_1 := notNew (ge_new hl_255) hb_4.lt
            have pr_257 : ¬ own (some ⟨b_251, 0, none⟩) b_32 := notNew (ge_new hl_255) hb_35.lt
            have pr_258 : ∀ q_, own (some ⟨b_251, 0, none⟩) q_ → ¬ own (some ⟨b_58, 0, none⟩) q_ := apartNew (ge_new hl_255) ho_61.own_lt
            have pr_259 : ∀ q_, own (some ⟨b_251, 0, none⟩) q_ → ¬ own a_69 q_ := apartNew (ge_new hl_255) ho_72.own_lt
            have pr_260 : ¬ own (some ⟨b_251, 0, none⟩) b := notNew (ge_new hl_255) hb82.lt
            have pr_261 : ∀ q_, own (some ⟨b_251, 0, none⟩) q_ → ¬ own aL_47 q_ := apartNew (ge_new hl_255) hoL82.own_lt
            have pr_262 : ∀ q_, own (some ⟨b_251, 0, none⟩) q_ → ¬ own aP_49 q_ := apartNew (ge_new hl_255) hoP82.own_lt
            have pg_263 : ∀ q_, own (some ⟨b_251, 0, none⟩) q_ → q_ < w.heap.size → (rtabS b aL aP) q_ := fun q_ h hlt => absurd (Nat.le_trans K0.size ((ge_new hl_255) q_ h)) (by omega)
            have pw_264 : ∀ q_, own (some ⟨b_251, 0, none⟩) q_ → w.heap.size ≤ q_ := fun q_ h => Nat.le_trans K0.size ((ge_new hl_255) q_ h)
            clear hl_255
            replace hb_4 := hb_4.ext K_253
            replace hb_35 := hb_35.ext K_253
            replace ho_61 := ho_61.ext K_253
            replace ho_72 := ho_72.ext K_253
            replace hb82 := hb82.ext K_253
            replace hoL82 := hoL82.ext K_253
            replace hoP82 := hoP82.ext K_253
            replace K0 := K0.ext K_253
            refine ⟨.inr ⟨hb_4, hb82, trivial⟩, ?_⟩
            refine RT.takeP (v := .slice (some ⟨b_251, 0, none⟩) (([(⟨7, (learnT (passT T t) (⟨(m).frm, 0, 1⟩ : Peer)).self, (m).n, (m).req, ⟨#[]⟩, ⟨none, 0, 0⟩, ⟨none, 0, 0⟩, ⟨none, 0, 0⟩, (m).owner, 0, -1, 0, 0, 0, ⟨none, 0, 0⟩, ⟨none, 0, 0⟩, ⟨none, 0, 0⟩⟩ : MsgC)] : List MsgC).length) (([(⟨7, (learnT (passT T t) (⟨(m).frm, 0, 1⟩ : Peer)).self, (m).n, (m).req, ⟨#[]⟩, ⟨none, 0, 0⟩, ⟨none, 0, 0⟩, ⟨none, 0, 0⟩, (m).owner, 0, -1, 0, 0, 0, ⟨none, 0, 0⟩, ⟨none, 0, 0⟩, ⟨none, 0, 0⟩⟩ : MsgC)] : List MsgC).length)) 13 rfl (by kernel_rfl) (.inr ⟨hb_4, hb82, trivial⟩) (fun _ => (x_assignSl rfl)) ?_
            refine RT.takeP (v := .slice (a_69) ((([] : List Peer) ++ ([(⟨(m).frm, 0, 1⟩ : Peer)] : List Peer)).length) (c_70)) 14 rfl (by kernel_rfl) (.inr ⟨hb_4, hb82, trivial⟩) (fun _ => (x_assignSl rfl)) ?_
            refine RT.done (by kernel_rfl) ?_
            refine Run.ret2 (v := .slice (some ⟨b_251, 0, none⟩) (([(⟨7, (learnT (passT T t) (⟨(m).frm, 0, 1⟩ : Peer)).self, (m).n, (m).req, ⟨#[]⟩, ⟨none, 0, 0⟩, ⟨none, 0, 0⟩, ⟨none, 0, 0⟩, (m).owner, 0, -1, 0, 0, 0, ⟨none, 0, 0⟩, ⟨none, 0, 0⟩, ⟨none, 0, 0⟩⟩ : MsgC)] : List MsgC).length) (([(⟨7, (learnT (passT T t) (⟨(m).frm, 0, 1⟩ : Peer)).self, (m).n, (m).req, ⟨#[]⟩, ⟨none, 0, 0⟩, ⟨none, 0, 0⟩, ⟨none, 0, 0⟩, (m).owner, 0, -1, 0, 0, 0, ⟨none, 0, 0⟩, ⟨none, 0, 0⟩, ⟨none, 0, 0⟩⟩ : MsgC)] : List MsgC).length)) (x := .slice (a_69) ((([] : List Peer) ++ ([(⟨(m).frm, 0, 1⟩ : Peer)] : List Peer)).length) (c_70)) Try.func35 rfl rfl rfl ?_
            have e := on_pong (T := T) (t := t) hno hc56
            rw [meet_new hk hks] at e
            dsimp only at e
            have e' : pongedT (learnT (passT T t) (⟨(m).frm, 0, 1⟩ : Peer)) m = (learnT (passT T t) (⟨(m).frm, 0, 1⟩ : Peer), ([(⟨7, (learnT (passT T t) (⟨(m).frm, 0, 1⟩ : Peer)).self, (m).n, (m).req, ⟨#[]⟩, ⟨none, 0, 0⟩, ⟨none, 0, 0⟩, ⟨none, 0, 0⟩, (m).owner, 0, -1, 0, 0, 0, ⟨none, 0, 0⟩, ⟨none, 0, 0⟩, ⟨none, 0, 0⟩⟩ : MsgC)] : List MsgC)) := by rw [pongedT, if_neg (by omega), if_pos (by omega)]; first | done | rfl
            rw [e'] at e
            have hR_265 : RTabAt w_252 b aL_47 cL_48 aP_49 cP_50 (learnT (passT T t) (⟨(m).frm, 0, 1⟩ : Peer)) := ⟨hb82, hoL82, hoP82, hapL82, hapP82, hapLP82, ok82, nv82⟩
            have pt_266 : ¬ rtabS b aL_47 aP_49 b_1 := (fun h1 => h1.elim (fun e => absurd e (by omega)) (fun h1 => h1.elim (fun h => (fun h1 => pr_55 (.inr (.inl h1))) h) (fun h => (fun h1 => pr_55 (.inr (.inr h1))) h)))
            have pt_267 : ¬ rtabS b aL_47 aP_49 b_32 := (fun h1 => h1.elim (fun e => absurd e (by omega)) (fun h1 => h1.elim (fun h => (fun h1 => pr_56 (.inr (.inl h1))) h) (fun h => (fun h1 => pr_56 (.inr (.inr h1))) h)))
            have pt_268 : ∀ q_, rtabS b aL_47 aP_49 q_ → ¬ own (some ⟨b_58, 0, none⟩) q_ := (fun q_ h1 h2 => h1.elim (fun e => (fun h2 => (fun q_ h1 h2 => pr_65 q_ h2 h1) _ (.inl rfl) h2) (e ▸ h2)) (fun h1 => h1.elim (fun h => (fun q_ h1 h2 => (fun q_ h1 h2 => pr_65 q_ h2 h1) q_ (.inr (.inl h1)) h2) q_ h h2) (fun h => (fun q_ h1 h2 => (fun q_ h1 h2 => pr_65 q_ h2 h1) q_ (.inr (.inr h1)) h2) q_ h h2)))
            have pt_269 : ∀ q_, rtabS b aL_47 aP_49 q_ → ¬ own a_69 q_ := (fun q_ h1 h2 => h1.elim (fun e => (fun h2 => (fun q_ h1 h2 => pr_78 q_ h2 h1) _ (.inl rfl) h2) (e ▸ h2)) (fun h1 => h1.elim (fun h => (fun q_ h1 h2 => (fun q_ h1 h2 => pr_78 q_ h2 h1) q_ (.inr (.inl h1)) h2) q_ h h2) (fun h => (fun q_ h1 h2 => (fun q_ h1 h2 => pr_78 q_ h2 h1) q_ (.inr (.inr h1)) h2) q_ h h2)))
            have pt_270 : ∀ q_, rtabS b aL_47 aP_49 q_ → ¬ own (some ⟨b_251, 0, none⟩) q_ := (fun q_ h1 h2 => h1.elim (fun e => pr_260 (e ▸ h2)) (fun h1 => h1.elim (fun h => (fun q_ h1 h2 => pr_261 q_ h2 h1) q_ h h2) (fun h => (fun q_ h1 h2 => pr_262 q_ h2 h1) q_ h h2)))
            have pt_271 : ∀ q_, rtabS b aL_47 aP_49 q_ → q_ < w.heap.size → (rtabS b aL aP) q_ := (fun q_ h1 hlt => h1.elim (fun e => e ▸ (Or.inl rfl)) (fun h1 => h1.elim (fun h => (fun q_ h1 hlt => pg_57 q_ (.inr (.inl h1)) hlt) q_ h hlt) (fun h => (fun q_ h1 hlt => pg_57 q_ (.inr (.inr h1)) hlt) q_ h hlt)))
            clear hb82 hoL82 hoP82
            have e1 : (on T m t).T = learnT (passT T t) (⟨(m).frm, 0, 1⟩ : Peer) := by rw [e]
            have e2 : (on T m t).out = ([(⟨7, (learnT (passT T t) (⟨(m).frm, 0, 1⟩ : Peer)).self, (m).n, (m).req, ⟨#[]⟩, ⟨none, 0, 0⟩, ⟨none, 0, 0⟩, ⟨none, 0, 0⟩, (m).owner, 0, -1, 0, 0, 0, ⟨none, 0, 0⟩, ⟨none, 0, 0⟩, ⟨none, 0, 0⟩⟩ : MsgC)] : List MsgC) := by rw [e]
            have e3 : (on T m t).told = ([] : List Peer) ++ ([(⟨(m).frm, 0, 1⟩ : Peer)] : List Peer) := by rw [e]; try rfl
            rw [e1, e2, e3]
            exact ⟨_, rfl, aL_47, cL_48, aP_49, cP_50, some ⟨b_251, 0, none⟩, ([(⟨7, (learnT (passT T t) (⟨(m).frm, 0, 1⟩ : Peer)).self, (m).n, (m).req, ⟨#[]⟩, ⟨none, 0, 0⟩, ⟨none, 0, 0⟩, ⟨none, 0, 0⟩, (m).owner, 0, -1, 0, 0, 0, ⟨none, 0, 0⟩, ⟨none, 0, 0⟩, ⟨none, 0, 0⟩⟩ : MsgC)] : List MsgC).length, a_69, c_70, rfl, hR_265, ho_254, ho_72, pw_264, pw_81, (fun q_ h1 h2 => pt_270 q_ h2 h1), (fun q_ h1 h2 => pt_269 q_ h2 h1), pr_259, rtabMoved' (fun x hx hlt => pt_271 x (.inr (.inl hx)) hlt) (fun x hx hlt => pt_271 x (.inr (.inr hx)) hlt), K0⟩
          · try simp only [br] at hc166
            refine Run.skip ?_
            refine Run.seq ?_
            refine Run.region ?_
            refine RL.val (x_moveSl rfl) ?_
            refine RL.val (x_assignSl rfl) ?_
            refine RL.val (x_assignSl rfl) ?_
            refine RL.nil ?_
            refine Run.ret2 (v := .slice (none) (0) (0)) (x := .slice (a_69) ((([] : List Peer) ++ ([(⟨(m).frm, 0, 1⟩ : Peer)] : List Peer)).length) (c_70)) Try.func35 rfl rfl rfl ?_
            have ho_272 := OwnSl.nil (α := MsgC) w_247 61
            have e := on_pong (T := T) (t := t) hno hc56
            rw [meet_new hk hks] at e
            dsimp only at e
            have e' : pongedT (learnT (passT T t) (⟨(m).frm, 0, 1⟩ : Peer)) m = (learnT (passT T t) (⟨(m).frm, 0, 1⟩ : Peer), ([] : List MsgC)) := by rw [pongedT, if_neg (by omega), if_neg (by omega)]; first | done | rfl
            rw [e'] at e
            have hR_273 : RTabAt w_247 b aL_47 cL_48 aP_49 cP_50 (learnT (passT T t) (⟨(m).frm, 0, 1⟩ : Peer)) := ⟨hb82, hoL82, hoP82, hapL82, hapP82, hapLP82, ok82, nv82⟩
            have pt_274 : ¬ rtabS b aL_47 aP_49 b_1 := (fun h1 => h1.elim (fun e => absurd e (by omega)) (fun h1 => h1.elim (fun h => (fun h1 => pr_55 (.inr (.inl h1))) h) (fun h => (fun h1 => pr_55 (.inr (.inr h1))) h)))
            have pt_275 : ¬ rtabS b aL_47 aP_49 b_32 := (fun h1 => h1.elim (fun e => absurd e (by omega)) (fun h1 => h1.elim (fun h => (fun h1 => pr_56 (.inr (.inl h1))) h) (fun h => (fun h1 => pr_56 (.inr (.inr h1))) h)))
            have pt_276 : ∀ q_, rtabS b aL_47 aP_49 q_ → ¬ own (some ⟨b_58, 0, none⟩) q_ := (fun q_ h1 h2 => h1.elim (fun e => (fun h2 => (fun q_ h1 h2 => pr_65 q_ h2 h1) _ (.inl rfl) h2) (e ▸ h2)) (fun h1 => h1.elim (fun h => (fun q_ h1 h2 => (fun q_ h1 h2 => pr_65 q_ h2 h1) q_ (.inr (.inl h1)) h2) q_ h h2) (fun h => (fun q_ h1 h2 => (fun q_ h1 h2 => pr_65 q_ h2 h1) q_ (.inr (.inr h1)) h2) q_ h h2)))
            have pt_277 : ∀ q_, rtabS b aL_47 aP_49 q_ → ¬ own a_69 q_ := (fun q_ h1 h2 => h1.elim (fun e => (fun h2 => (fun q_ h1 h2 => pr_78 q_ h2 h1) _ (.inl rfl) h2) (e ▸ h2)) (fun h1 => h1.elim (fun h => (fun q_ h1 h2 => (fun q_ h1 h2 => pr_78 q_ h2 h1) q_ (.inr (.inl h1)) h2) q_ h h2) (fun h => (fun q_ h1 h2 => (fun q_ h1 h2 => pr_78 q_ h2 h1) q_ (.inr (.inr h1)) h2) q_ h h2)))
            have pt_278 : ∀ q_, rtabS b aL_47 aP_49 q_ → ¬ own none q_ := (fun q_ h1 h2 => h1.elim (fun e => (own_none b) (e ▸ h2)) (fun h1 => h1.elim (fun h => (fun q_ h1 h2 => (fun q_ h1 _ => own_none q_ h1) q_ h2 h1) q_ h h2) (fun h => (fun q_ h1 h2 => (fun q_ h1 _ => own_none q_ h1) q_ h2 h1) q_ h h2)))
            have pt_279 : ∀ q_, rtabS b aL_47 aP_49 q_ → q_ < w.heap.size → (rtabS b aL aP) q_ := (fun q_ h1 hlt => h1.elim (fun e => e ▸ (Or.inl rfl)) (fun h1 => h1.elim (fun h => (fun q_ h1 hlt => pg_57 q_ (.inr (.inl h1)) hlt) q_ h hlt) (fun h => (fun q_ h1 hlt => pg_57 q_ (.inr (.inr h1)) hlt) q_ h hlt)))
            clear hb82 hoL82 hoP82
            have e1 : (on T m t).T = learnT (passT T t) (⟨(m).frm, 0, 1⟩ : Peer) := by rw [e]
            have e2 : (on T m t).out = ([] : List MsgC) := by rw [e]
            have e3 : (on T m t).told = ([] : List Peer) ++ ([(⟨(m).frm, 0, 1⟩ : Peer)] : List Peer) := by rw [e]; try rfl
            rw [e1, e2, e3]
            exact ⟨_, rfl, aL_47, cL_48, aP_49, cP_50, none, 0, a_69, c_70, rfl, hR_273, ho_272, ho_72, (fun q_ h1 => absurd h1 (own_none q_)), pw_81, (fun q_ h1 h2 => pt_278 q_ h2 h1), (fun q_ h1 h2 => pt_277 q_ h2 h1), (fun q_ h1 _ => own_none q_ h1), rtabMoved' (fun x hx hlt => pt_279 x (.inr (.inl hx)) hlt) (fun x hx hlt => pt_279 x (.inr (.inr hx)) hlt), K0⟩
    · try simp only [br] at hc43
      obtain ⟨k, _, _, hk, hks, _, _⟩ := (statusL_find h1_ m.frm).resolve_left (fun h => absurd h.1 (by omega))
      refine Run.skip ?_
      refine Run.seq ?_
      refine Run.seq ?_
      refine Run.region ?_
      refine RL.val (x_fld (o' := 0) Try.underlying61 rfl ty3 rfl rfl rfl) ?_
      refine RL.val (x_ld (v := .int .i64 ((m).kind)) ty3 rfl rfl (hb_4.cl.field (i := 0) rfl)) ?_
      refine RL.val (x_eqI rfl rfl) ?_
      refine RL.nil ?_
      refine Run.cond rfl (fun hc56 => ?_) (fun hc56 => ?_)
      · try simp only [br] at hc56
        refine Run.seq ?_
        refine Run.seq ?_
        refine Run.draw' (m := 12) (by kernel_rfl) rfl ?_
        intro w_280 K_281
        replace hb_4 := hb_4.ext K_281
        replace hb17 := hb17.ext K_281
        replace hoL17 := hoL17.ext K_281
        replace hoP17 := hoP17.ext K_281
        replace K0 := K0.ext K_281
        refine RA.take (v := .pointer (some ⟨b_1, 8, none⟩)) 0 rfl (by kernel_rfl) rfl (by rintro _ rfl; exact (x_fld (o' := 8) Try.underlying61 rfl ty3 rfl rfl rfl)) ?_
        refine RA.take (v := .int .i64 ((m).owner)) 1 rfl (by kernel_rfl) rfl (by rintro _ rfl; exact (x_ld (v := .int .i64 ((m).owner)) ty3 rfl rfl (hb_4.cl.field (i := 8) rfl))) ?_
        refine RA.take (v := .bool (((m).owner) == (-1))) 2 rfl (by kernel_rfl) rfl (by rintro _ rfl; exact (x_eqI rfl rfl)) ?_
        refine RA.take (v := .bool (((m).owner) == (-1))) 3 rfl (by kernel_rfl) rfl (by rintro _ rfl; exact (x_moveB rfl)) ?_
        refine RA.gtake (v := .pointer (some ⟨b_1, 8, none⟩)) 4 rfl (by kernel_rfl) rfl (wantedF rfl rfl rfl rfl) (fun hg => by rintro _ rfl; exact (x_fld (o' := 8) Try.underlying61 rfl ty3 rfl rfl rfl)) ?_
        refine RA.gtake (v := .int .i64 ((m).owner)) 5 rfl (by kernel_rfl) rfl (wantedF rfl rfl rfl rfl) (fun hg => by rintro _ rfl; exact (x_ld (v := .int .i64 ((m).owner)) ty3 (gvr hg) rfl (hb_4.cl.field (i := 8) rfl))) ?_
        refine RA.gtake (v := .pointer (some ⟨b, 0, none⟩)) 6 rfl (by kernel_rfl) rfl (wantedF rfl rfl rfl rfl) (fun hg => by rintro _ rfl; exact (x_moveP rfl)) ?_
        refine RA.gtake (v := .pointer (some ⟨b, 0, none⟩)) 7 rfl (by kernel_rfl) rfl (wantedF rfl rfl rfl rfl) (fun hg => by rintro _ rfl; exact (x_nilCheck (gvr hg))) ?_
        refine RA.gtake (v := .pointer (some ⟨b, 0, none⟩)) 8 rfl (by kernel_rfl) rfl (wantedF rfl rfl rfl rfl) (fun hg => by rintro _ rfl; exact (x_fld (o' := 0) Try.underlying94 rfl ty3 rfl (gvr hg) rfl)) ?_
        refine RA.gtake (v := .int .i64 ((passT T t).self)) 9 rfl (by kernel_rfl) rfl (wantedF rfl rfl rfl rfl) (fun hg => by rintro _ rfl; exact (x_ld (v := .int .i64 ((passT T t).self)) ty3 (gvr hg) rfl (hb17.cl.field (i := 0) rfl))) ?_
        refine RA.gtake (v := .bool (((m).owner) == ((passT T t).self))) 10 rfl (by kernel_rfl) rfl (wantedF rfl rfl rfl rfl) (fun hg => by rintro _ rfl; exact (x_eqI (gvr hg) (gvr hg))) ?_
        refine RA.take (v := .bool ((((m).owner) == (-1)) || (((m).owner) == ((passT T t).self)))) 11 rfl (by kernel_rfl) rfl (by rintro _ rfl; exact (x_or rfl rfl rfl)) ?_
        refine RA.done (by kernel_rfl) ?_
        refine Run.cond rfl (fun hc68 => ?_) (fun hc68 => ?_)
        · try simp only [br] at hc68
          refine Run.seq ?_
          refine Run.region ?_
          refine RL.val (x_fld (o' := 10) Try.underlying61 rfl ty3 rfl rfl rfl) ?_
          refine RL.val (x_ld (v := .int .i64 ((m).n)) ty3 rfl rfl (hb_4.cl.field (i := 10) rfl)) ?_
          refine RL.val (x_assignI rfl) ?_
          refine RL.nil ?_
          refine Run.seq ?_
          refine Run.seq ?_
          refine Run.region ?_
          refine RL.val (x_moveI rfl) ?_
          refine RL.st rfl <| St1.call (vals := [.int .i64 ((m).n)]) en55 rfl (node_ ((m).n) _) ?_
          rintro _ w_282 ⟨rfl, K_283⟩
          replace hb_4 := hb_4.ext K_283
          replace hb17 := hb17.ext K_283
          replace hoL17 := hoL17.ext K_283
          replace hoP17 := hoP17.ext K_283
          replace K0 := K0.ext K_283
          refine RL.val (x_not rfl) ?_
          refine RL.nil ?_
          refine Run.cond rfl (fun hc73 => ?_) (fun hc73 => ?_)
          · try simp only [br] at hc73
            refine Run.region ?_
            refine RL.val (x_assignI rfl) ?_
            refine RL.nil ?_
            refine Run.seq ?_
            refine Run.drawT [] (m := 18) (by kernel_rfl) rfl ?_
            intro w_284 K_285
            replace hb_4 := hb_4.ext K_285
            replace hb17 := hb17.ext K_285
            replace hoL17 := hoL17.ext K_285
            replace hoP17 := hoP17.ext K_285
            replace K0 := K0.ext K_285
            refine ⟨fun w' => Blk w' b_1 [.int .i64 ((m).kind), .int .i64 ((m).frm), .int .i64 ((m).to), .int .i64 ((m).req), .string ((m).key), .slice ((m).entries.a) ((m).entries.len) ((m).entries.cap), .slice ((m).marks.a) ((m).marks.len) ((m).marks.cap), .slice ((m).cloud.a) ((m).cloud.len) ((m).cloud.cap), .int .i64 ((m).owner), .int .i64 ((m).part), .int .i64 ((m).n), .int .i64 ((m).rparts), .int .i64 ((m).rcopies), .int .i64 ((m).rspots), .slice ((m).members.a) ((m).members.len) ((m).members.cap), .slice ((m).peers.a) ((m).peers.len) ((m).peers.cap), .slice ((m).sums.a) ((m).sums.len) ((m).sums.cap)] 61 ∧ Blk w' b [.int .i64 ((passT T t).self), .int .i64 ((passT T t).now), .slice (aL_7) ((knownL (passT T t).l).length) (cL_8), .slice (aP_9) ((passT T t).pings.length) (cP_10), .int .i64 ((passT T t).req), .bool ((passT T t).begun), .int .i64 ((passT T t).last), .int .i64 ((passT T t).target)] 94 ∧ True, ?_⟩
            refine RT.takeP (v := .pointer (some ⟨b, 0, none⟩)) 0 rfl (by kernel_rfl) (.inr ⟨hb_4, hb17, trivial⟩) (fun _ => (x_moveP rfl)) ?_
            refine RT.takeP (v := .pointer (some ⟨b, 0, none⟩)) 1 rfl (by kernel_rfl) (.inr ⟨hb_4, hb17, trivial⟩) (fun _ => (x_nilCheck rfl)) ?_
            refine RT.takeP (v := .pointer (some ⟨b, 0, none⟩)) 2 rfl (by kernel_rfl) (.inr ⟨hb_4, hb17, trivial⟩) (fun _ => (x_fld (o' := 0) Try.underlying94 rfl ty3 rfl rfl rfl)) ?_
            refine RT.take (v := .int .i64 ((passT T t).self)) 3 rfl (by kernel_rfl) ⟨hb_4, hb17, trivial⟩ (by rintro _ ⟨hb_4, hb17, -⟩; exact (x_ld (v := .int .i64 ((passT T t).self)) ty3 rfl rfl (hb17.cl.field (i := 0) rfl))) ?_
            refine RT.takeP (v := .pointer (some ⟨b_1, 1, none⟩)) 4 rfl (by kernel_rfl) (.inr ⟨hb_4, hb17, trivial⟩) (fun _ => (x_fld (o' := 1) Try.underlying61 rfl ty3 rfl rfl rfl)) ?_
            refine RT.take (v := .int .i64 ((m).frm)) 5 rfl (by kernel_rfl) ⟨hb_4, hb17, trivial⟩ (by rintro _ ⟨hb_4, hb17, -⟩; exact (x_ld (v := .int .i64 ((m).frm)) ty3 rfl rfl (hb_4.cl.field (i := 1) rfl))) ?_
            refine RT.takeP (v := .pointer (some ⟨b_1, 3, none⟩)) 6 rfl (by kernel_rfl) (.inr ⟨hb_4, hb17, trivial⟩) (fun _ => (x_fld (o' := 3) Try.underlying61 rfl ty3 rfl rfl rfl)) ?_
            refine RT.take (v := .int .i64 ((m).req)) 7 rfl (by kernel_rfl) ⟨hb_4, hb17, trivial⟩ (by rintro _ ⟨hb_4, hb17, -⟩; exact (x_ld (v := .int .i64 ((m).req)) ty3 rfl rfl (hb_4.cl.field (i := 3) rfl))) ?_
            refine RT.takeP (v := .pointer (some ⟨b, 0, none⟩)) 8 rfl (by kernel_rfl) (.inr ⟨hb_4, hb17, trivial⟩) (fun _ => (x_moveP rfl)) ?_
            refine RT.takeP (v := .pointer (some ⟨b, 0, none⟩)) 9 rfl (by kernel_rfl) (.inr ⟨hb_4, hb17, trivial⟩) (fun _ => (x_nilCheck rfl)) ?_
            refine RT.takeP (v := .pointer (some ⟨b, 0, none⟩)) 10 rfl (by kernel_rfl) (.inr ⟨hb_4, hb17, trivial⟩) (fun _ => (x_fld (o' := 0) Try.underlying94 rfl ty3 rfl rfl rfl)) ?_
            refine RT.take (v := .int .i64 ((passT T t).self)) 11 rfl (by kernel_rfl) ⟨hb_4, hb17, trivial⟩ (by rintro _ ⟨hb_4, hb17, -⟩; exact (x_ld (v := .int .i64 ((passT T t).self)) ty3 rfl rfl (hb17.cl.field (i := 0) rfl))) ?_
            refine RT.takeP (v := .int .i64 (-1)) 12 rfl (by kernel_rfl) (.inr ⟨hb_4, hb17, trivial⟩) (fun _ => (x_moveI rfl)) ?_
            refine RT.takeP (v := .agg #[.int .i64 (7), .int .i64 ((passT T t).self), .int .i64 ((m).frm), .int .i64 ((m).req), .string (⟨#[]⟩), .slice (none) (0) (0), .slice (none) (0) (0), .slice (none) (0) (0), .int .i64 ((passT T t).self), .int .i64 (0), .int .i64 (-1), .int .i64 (0), .int .i64 (0), .int .i64 (0), .slice (none) (0) (0), .slice (none) (0) (0), .slice (none) (0) (0)]) 13 rfl (by kernel_rfl) (.inr ⟨hb_4, hb17, trivial⟩) (fun _ => (x_build (cells := #[.int .i64 (7), .int .i64 ((passT T t).self), .int .i64 ((m).frm), .int .i64 ((m).req), .string (⟨#[]⟩), .slice (none) (0) (0), .slice (none) (0) (0), .slice (none) (0) (0), .int .i64 ((passT T t).self), .int .i64 (0), .int .i64 (-1), .int .i64 (0), .int .i64 (0), .int .i64 (0), .slice (none) (0) (0), .slice (none) (0) (0), .slice (none) (0) (0)]) (by kernel_rfl))) ?_
            refine RT.takeP (v := .slice (none) (0) (0)) 15 rfl (by kernel_rfl) (.inr ⟨hb_4, hb17, trivial⟩) (fun _ => (x_moveSl rfl)) ?_
            refine RT.st 14 rfl (by kernel_rfl) rfl <| St1.buildSlice ([(⟨7, (passT T t).self, (m).frm, (m).req, ⟨#[]⟩, ⟨none, 0, 0⟩, ⟨none, 0, 0⟩, ⟨none, 0, 0⟩, (passT T t).self, 0, -1, 0, 0, 0, ⟨none, 0, 0⟩, ⟨none, 0, 0⟩, ⟨none, 0, 0⟩⟩ : MsgC)] : List MsgC) Try.underlying34 ty61 rfl rfl (by first | decide | (simp [Enc.size])) ?_
            intro b_286 w_287 hl_290 ho_289 K_288
            have pr_291 : ¬ own (some ⟨b_286, 0, none⟩) b_1 := notNew (ge_new hl_290) hb_4.lt
            have pr_292 : ¬ own (some ⟨b_286, 0, none⟩) b := notNew (ge_new hl_290) hb17.lt
            have pr_293 : ∀ q_, own (some ⟨b_286, 0, none⟩) q_ → ¬ own aL_7 q_ := apartNew (ge_new hl_290) hoL17.own_lt
            have pr_294 : ∀ q_, own (some ⟨b_286, 0, none⟩) q_ → ¬ own aP_9 q_ := apartNew (ge_new hl_290) hoP17.own_lt
            have pg_295 : ∀ q_, own (some ⟨b_286, 0, none⟩) q_ → q_ < w.heap.size → (rtabS b aL aP) q_ := fun q_ h hlt => absurd (Nat.le_trans K0.size ((ge_new hl_290) q_ h)) (by omega)
            have pw_296 : ∀ q_, own (some ⟨b_286, 0, none⟩) q_ → w.heap.size ≤ q_ := fun q_ h => Nat.le_trans K0.size ((ge_new hl_290) q_ h)
            clear hl_290
            replace hb_4 := hb_4.ext K_288
            replace hb17 := hb17.ext K_288
            replace hoL17 := hoL17.ext K_288
            replace hoP17 := hoP17.ext K_288
            replace K0 := K0.ext K_288
            refine ⟨.inr ⟨hb_4, hb17, trivial⟩, ?_⟩
            refine RT.takeP (v := .slice (some ⟨b_286, 0, none⟩) (([(⟨7, (passT T t).self, (m).frm, (m).req, ⟨#[]⟩, ⟨none, 0, 0⟩, ⟨none, 0, 0⟩, ⟨none, 0, 0⟩, (passT T t).self, 0, -1, 0, 0, 0, ⟨none, 0, 0⟩, ⟨none, 0, 0⟩, ⟨none, 0, 0⟩⟩ : MsgC)] : List MsgC).length) (([(⟨7, (passT T t).self, (m).frm, (m).req, ⟨#[]⟩, ⟨none, 0, 0⟩, ⟨none, 0, 0⟩, ⟨none, 0, 0⟩, (passT T t).self, 0, -1, 0, 0, 0, ⟨none, 0, 0⟩, ⟨none, 0, 0⟩, ⟨none, 0, 0⟩⟩ : MsgC)] : List MsgC).length)) 16 rfl (by kernel_rfl) (.inr ⟨hb_4, hb17, trivial⟩) (fun _ => (x_assignSl rfl)) ?_
            refine RT.takeP (v := .slice (none) (0) (0)) 17 rfl (by kernel_rfl) (.inr ⟨hb_4, hb17, trivial⟩) (fun _ => (x_assignSl rfl)) ?_
            refine RT.done (by kernel_rfl) ?_
            refine Run.ret2 (v := .slice (some ⟨b_286, 0, none⟩) (([(⟨7, (passT T t).self, (m).frm, (m).req, ⟨#[]⟩, ⟨none, 0, 0⟩, ⟨none, 0, 0⟩, ⟨none, 0, 0⟩, (passT T t).self, 0, -1, 0, 0, 0, ⟨none, 0, 0⟩, ⟨none, 0, 0⟩, ⟨none, 0, 0⟩⟩ : MsgC)] : List MsgC).length) (([(⟨7, (passT T t).self, (m).frm, (m).req, ⟨#[]⟩, ⟨none, 0, 0⟩, ⟨none, 0, 0⟩, ⟨none, 0, 0⟩, (passT T t).self, 0, -1, 0, 0, 0, ⟨none, 0, 0⟩, ⟨none, 0, 0⟩, ⟨none, 0, 0⟩⟩ : MsgC)] : List MsgC).length)) (x := .slice (none) (0) (0)) Try.func35 rfl rfl rfl ?_
            have ho_297 := OwnSl.nil (α := Peer) w_287 23
            have e := on_ping (T := T) (t := t) hno hc56
            rw [meet_old hk hks] at e
            dsimp only at e
            have e' : pingedT (passT T t) m = ([(⟨7, (passT T t).self, (m).frm, (m).req, ⟨#[]⟩, ⟨none, 0, 0⟩, ⟨none, 0, 0⟩, ⟨none, 0, 0⟩, (passT T t).self, 0, -1, 0, 0, 0, ⟨none, 0, 0⟩, ⟨none, 0, 0⟩, ⟨none, 0, 0⟩⟩ : MsgC)] : List MsgC) := by rw [pingedT, if_pos hc68, clampN, if_pos (by omega)]; first | done | rfl
            rw [e'] at e
            have hR_298 : RTabAt w_287 b aL_7 cL_8 aP_9 cP_10 (passT T t) := ⟨hb17, hoL17, hoP17, hapL17, hapP17, hapLP17, ok17, nv17⟩
            have pt_299 : ¬ rtabS b aL_7 aP_9 b_1 := (fun h1 => h1.elim (fun e => absurd e (by omega)) (fun h1 => h1.elim (fun h => (fun h1 => pr_15 (.inr (.inl h1))) h) (fun h => (fun h1 => pr_15 (.inr (.inr h1))) h)))
            have pt_300 : ∀ q_, rtabS b aL_7 aP_9 q_ → ¬ own (some ⟨b_286, 0, none⟩) q_ := (fun q_ h1 h2 => h1.elim (fun e => pr_292 (e ▸ h2)) (fun h1 => h1.elim (fun h => (fun q_ h1 h2 => pr_293 q_ h2 h1) q_ h h2) (fun h => (fun q_ h1 h2 => pr_294 q_ h2 h1) q_ h h2)))
            have pt_301 : ∀ q_, rtabS b aL_7 aP_9 q_ → ¬ own none q_ := (fun q_ h1 h2 => h1.elim (fun e => (own_none b) (e ▸ h2)) (fun h1 => h1.elim (fun h => (fun q_ h1 h2 => (fun q_ h1 _ => own_none q_ h1) q_ h2 h1) q_ h h2) (fun h => (fun q_ h1 h2 => (fun q_ h1 _ => own_none q_ h1) q_ h2 h1) q_ h h2)))
            have pt_302 : ∀ q_, rtabS b aL_7 aP_9 q_ → q_ < w.heap.size → (rtabS b aL aP) q_ := (fun q_ h1 hlt => h1.elim (fun e => e ▸ (Or.inl rfl)) (fun h1 => h1.elim (fun h => (fun q_ h1 hlt => pg_16 q_ (.inr (.inl h1)) hlt) q_ h hlt) (fun h => (fun q_ h1 hlt => pg_16 q_ (.inr (.inr h1)) hlt) q_ h hlt)))
            clear hb17 hoL17 hoP17
            have e1 : (on T m t).T = passT T t := by rw [e]
            have e2 : (on T m t).out = ([(⟨7, (passT T t).self, (m).frm, (m).req, ⟨#[]⟩, ⟨none, 0, 0⟩, ⟨none, 0, 0⟩, ⟨none, 0, 0⟩, (passT T t).self, 0, -1, 0, 0, 0, ⟨none, 0, 0⟩, ⟨none, 0, 0⟩, ⟨none, 0, 0⟩⟩ : MsgC)] : List MsgC) := by rw [e]
            have e3 : (on T m t).told = ([] : List Peer) := by rw [e]; try rfl
            rw [e1, e2, e3]
            exact ⟨_, rfl, aL_7, cL_8, aP_9, cP_10, some ⟨b_286, 0, none⟩, ([(⟨7, (passT T t).self, (m).frm, (m).req, ⟨#[]⟩, ⟨none, 0, 0⟩, ⟨none, 0, 0⟩, ⟨none, 0, 0⟩, (passT T t).self, 0, -1, 0, 0, 0, ⟨none, 0, 0⟩, ⟨none, 0, 0⟩, ⟨none, 0, 0⟩⟩ : MsgC)] : List MsgC).length, none, 0, rfl, hR_298, ho_289, ho_297, pw_296, (fun q_ h1 => absurd h1 (own_none q_)), (fun q_ h1 h2 => pt_300 q_ h2 h1), (fun q_ h1 h2 => pt_301 q_ h2 h1), (fun q_ h1 h2 => (fun q_ h1 _ => own_none q_ h1) q_ h2 h1), rtabMoved' (fun x hx hlt => pt_302 x (.inr (.inl hx)) hlt) (fun x hx hlt => pt_302 x (.inr (.inr hx)) hlt), K0⟩
          · try simp only [br] at hc73
            refine Run.skip ?_
            refine Run.seq ?_
            refine Run.drawT [] (m := 18) (by kernel_rfl) rfl ?_
            intro w_303 K_304
            replace hb_4 := hb_4.ext K_304
            replace hb17 := hb17.ext K_304
            replace hoL17 := hoL17.ext K_304
            replace hoP17 := hoP17.ext K_304
            replace K0 := K0.ext K_304
            refine ⟨fun w' => Blk w' b_1 [.int .i64 ((m).kind), .int .i64 ((m).frm), .int .i64 ((m).to), .int .i64 ((m).req), .string ((m).key), .slice ((m).entries.a) ((m).entries.len) ((m).entries.cap), .slice ((m).marks.a) ((m).marks.len) ((m).marks.cap), .slice ((m).cloud.a) ((m).cloud.len) ((m).cloud.cap), .int .i64 ((m).owner), .int .i64 ((m).part), .int .i64 ((m).n), .int .i64 ((m).rparts), .int .i64 ((m).rcopies), .int .i64 ((m).rspots), .slice ((m).members.a) ((m).members.len) ((m).members.cap), .slice ((m).peers.a) ((m).peers.len) ((m).peers.cap), .slice ((m).sums.a) ((m).sums.len) ((m).sums.cap)] 61 ∧ Blk w' b [.int .i64 ((passT T t).self), .int .i64 ((passT T t).now), .slice (aL_7) ((knownL (passT T t).l).length) (cL_8), .slice (aP_9) ((passT T t).pings.length) (cP_10), .int .i64 ((passT T t).req), .bool ((passT T t).begun), .int .i64 ((passT T t).last), .int .i64 ((passT T t).target)] 94 ∧ True, ?_⟩
            refine RT.takeP (v := .pointer (some ⟨b, 0, none⟩)) 0 rfl (by kernel_rfl) (.inr ⟨hb_4, hb17, trivial⟩) (fun _ => (x_moveP rfl)) ?_
            refine RT.takeP (v := .pointer (some ⟨b, 0, none⟩)) 1 rfl (by kernel_rfl) (.inr ⟨hb_4, hb17, trivial⟩) (fun _ => (x_nilCheck rfl)) ?_
            refine RT.takeP (v := .pointer (some ⟨b, 0, none⟩)) 2 rfl (by kernel_rfl) (.inr ⟨hb_4, hb17, trivial⟩) (fun _ => (x_fld (o' := 0) Try.underlying94 rfl ty3 rfl rfl rfl)) ?_
            refine RT.take (v := .int .i64 ((passT T t).self)) 3 rfl (by kernel_rfl) ⟨hb_4, hb17, trivial⟩ (by rintro _ ⟨hb_4, hb17, -⟩; exact (x_ld (v := .int .i64 ((passT T t).self)) ty3 rfl rfl (hb17.cl.field (i := 0) rfl))) ?_
            refine RT.takeP (v := .pointer (some ⟨b_1, 1, none⟩)) 4 rfl (by kernel_rfl) (.inr ⟨hb_4, hb17, trivial⟩) (fun _ => (x_fld (o' := 1) Try.underlying61 rfl ty3 rfl rfl rfl)) ?_
            refine RT.take (v := .int .i64 ((m).frm)) 5 rfl (by kernel_rfl) ⟨hb_4, hb17, trivial⟩ (by rintro _ ⟨hb_4, hb17, -⟩; exact (x_ld (v := .int .i64 ((m).frm)) ty3 rfl rfl (hb_4.cl.field (i := 1) rfl))) ?_
            refine RT.takeP (v := .pointer (some ⟨b_1, 3, none⟩)) 6 rfl (by kernel_rfl) (.inr ⟨hb_4, hb17, trivial⟩) (fun _ => (x_fld (o' := 3) Try.underlying61 rfl ty3 rfl rfl rfl)) ?_
            refine RT.take (v := .int .i64 ((m).req)) 7 rfl (by kernel_rfl) ⟨hb_4, hb17, trivial⟩ (by rintro _ ⟨hb_4, hb17, -⟩; exact (x_ld (v := .int .i64 ((m).req)) ty3 rfl rfl (hb_4.cl.field (i := 3) rfl))) ?_
            refine RT.takeP (v := .pointer (some ⟨b, 0, none⟩)) 8 rfl (by kernel_rfl) (.inr ⟨hb_4, hb17, trivial⟩) (fun _ => (x_moveP rfl)) ?_
            refine RT.takeP (v := .pointer (some ⟨b, 0, none⟩)) 9 rfl (by kernel_rfl) (.inr ⟨hb_4, hb17, trivial⟩) (fun _ => (x_nilCheck rfl)) ?_
            refine RT.takeP (v := .pointer (some ⟨b, 0, none⟩)) 10 rfl (by kernel_rfl) (.inr ⟨hb_4, hb17, trivial⟩) (fun _ => (x_fld (o' := 0) Try.underlying94 rfl ty3 rfl rfl rfl)) ?_
            refine RT.take (v := .int .i64 ((passT T t).self)) 11 rfl (by kernel_rfl) ⟨hb_4, hb17, trivial⟩ (by rintro _ ⟨hb_4, hb17, -⟩; exact (x_ld (v := .int .i64 ((passT T t).self)) ty3 rfl rfl (hb17.cl.field (i := 0) rfl))) ?_
            refine RT.takeP (v := .int .i64 ((m).n)) 12 rfl (by kernel_rfl) (.inr ⟨hb_4, hb17, trivial⟩) (fun _ => (x_moveI rfl)) ?_
            refine RT.takeP (v := .agg #[.int .i64 (7), .int .i64 ((passT T t).self), .int .i64 ((m).frm), .int .i64 ((m).req), .string (⟨#[]⟩), .slice (none) (0) (0), .slice (none) (0) (0), .slice (none) (0) (0), .int .i64 ((passT T t).self), .int .i64 (0), .int .i64 ((m).n), .int .i64 (0), .int .i64 (0), .int .i64 (0), .slice (none) (0) (0), .slice (none) (0) (0), .slice (none) (0) (0)]) 13 rfl (by kernel_rfl) (.inr ⟨hb_4, hb17, trivial⟩) (fun _ => (x_build (cells := #[.int .i64 (7), .int .i64 ((passT T t).self), .int .i64 ((m).frm), .int .i64 ((m).req), .string (⟨#[]⟩), .slice (none) (0) (0), .slice (none) (0) (0), .slice (none) (0) (0), .int .i64 ((passT T t).self), .int .i64 (0), .int .i64 ((m).n), .int .i64 (0), .int .i64 (0), .int .i64 (0), .slice (none) (0) (0), .slice (none) (0) (0), .slice (none) (0) (0)]) (by kernel_rfl))) ?_
            refine RT.takeP (v := .slice (none) (0) (0)) 15 rfl (by kernel_rfl) (.inr ⟨hb_4, hb17, trivial⟩) (fun _ => (x_moveSl rfl)) ?_
            refine RT.st 14 rfl (by kernel_rfl) rfl <| St1.buildSlice ([(⟨7, (passT T t).self, (m).frm, (m).req, ⟨#[]⟩, ⟨none, 0, 0⟩, ⟨none, 0, 0⟩, ⟨none, 0, 0⟩, (passT T t).self, 0, (m).n, 0, 0, 0, ⟨none, 0, 0⟩, ⟨none, 0, 0⟩, ⟨none, 0, 0⟩⟩ : MsgC)] : List MsgC) Try.underlying34 ty61 rfl rfl (by first | decide | (simp [Enc.size])) ?_
            intro b_305 w_306 hl_309 ho_308 K_307
            have pr_310 : ¬ own (some ⟨b_305, 0, none⟩) b_1 := notNew (ge_new hl_309) hb_4.lt
            have pr_311 : ¬ own (some ⟨b_305, 0, none⟩) b := notNew (ge_new hl_309) hb17.lt
            have pr_312 : ∀ q_, own (some ⟨b_305, 0, none⟩) q_ → ¬ own aL_7 q_ := apartNew (ge_new hl_309) hoL17.own_lt
            have pr_313 : ∀ q_, own (some ⟨b_305, 0, none⟩) q_ → ¬ own aP_9 q_ := apartNew (ge_new hl_309) hoP17.own_lt
            have pg_314 : ∀ q_, own (some ⟨b_305, 0, none⟩) q_ → q_ < w.heap.size → (rtabS b aL aP) q_ := fun q_ h hlt => absurd (Nat.le_trans K0.size ((ge_new hl_309) q_ h)) (by omega)
            have pw_315 : ∀ q_, own (some ⟨b_305, 0, none⟩) q_ → w.heap.size ≤ q_ := fun q_ h => Nat.le_trans K0.size ((ge_new hl_309) q_ h)
            clear hl_309
            replace hb_4 := hb_4.ext K_307
            replace hb17 := hb17.ext K_307
            replace hoL17 := hoL17.ext K_307
            replace hoP17 := hoP17.ext K_307
            replace K0 := K0.ext K_307
            refine ⟨.inr ⟨hb_4, hb17, trivial⟩, ?_⟩
            refine RT.takeP (v := .slice (some ⟨b_305, 0, none⟩) (([(⟨7, (passT T t).self, (m).frm, (m).req, ⟨#[]⟩, ⟨none, 0, 0⟩, ⟨none, 0, 0⟩, ⟨none, 0, 0⟩, (passT T t).self, 0, (m).n, 0, 0, 0, ⟨none, 0, 0⟩, ⟨none, 0, 0⟩, ⟨none, 0, 0⟩⟩ : MsgC)] : List MsgC).length) (([(⟨7, (passT T t).self, (m).frm, (m).req, ⟨#[]⟩, ⟨none, 0, 0⟩, ⟨none, 0, 0⟩, ⟨none, 0, 0⟩, (passT T t).self, 0, (m).n, 0, 0, 0, ⟨none, 0, 0⟩, ⟨none, 0, 0⟩, ⟨none, 0, 0⟩⟩ : MsgC)] : List MsgC).length)) 16 rfl (by kernel_rfl) (.inr ⟨hb_4, hb17, trivial⟩) (fun _ => (x_assignSl rfl)) ?_
            refine RT.takeP (v := .slice (none) (0) (0)) 17 rfl (by kernel_rfl) (.inr ⟨hb_4, hb17, trivial⟩) (fun _ => (x_assignSl rfl)) ?_
            refine RT.done (by kernel_rfl) ?_
            refine Run.ret2 (v := .slice (some ⟨b_305, 0, none⟩) (([(⟨7, (passT T t).self, (m).frm, (m).req, ⟨#[]⟩, ⟨none, 0, 0⟩, ⟨none, 0, 0⟩, ⟨none, 0, 0⟩, (passT T t).self, 0, (m).n, 0, 0, 0, ⟨none, 0, 0⟩, ⟨none, 0, 0⟩, ⟨none, 0, 0⟩⟩ : MsgC)] : List MsgC).length) (([(⟨7, (passT T t).self, (m).frm, (m).req, ⟨#[]⟩, ⟨none, 0, 0⟩, ⟨none, 0, 0⟩, ⟨none, 0, 0⟩, (passT T t).self, 0, (m).n, 0, 0, 0, ⟨none, 0, 0⟩, ⟨none, 0, 0⟩, ⟨none, 0, 0⟩⟩ : MsgC)] : List MsgC).length)) (x := .slice (none) (0) (0)) Try.func35 rfl rfl rfl ?_
            have ho_316 := OwnSl.nil (α := Peer) w_306 23
            have e := on_ping (T := T) (t := t) hno hc56
            rw [meet_old hk hks] at e
            dsimp only at e
            have e' : pingedT (passT T t) m = ([(⟨7, (passT T t).self, (m).frm, (m).req, ⟨#[]⟩, ⟨none, 0, 0⟩, ⟨none, 0, 0⟩, ⟨none, 0, 0⟩, (passT T t).self, 0, (m).n, 0, 0, 0, ⟨none, 0, 0⟩, ⟨none, 0, 0⟩, ⟨none, 0, 0⟩⟩ : MsgC)] : List MsgC) := by rw [pingedT, if_pos hc68, clampN, if_neg (by omega)]; first | done | rfl
            rw [e'] at e
            have hR_317 : RTabAt w_306 b aL_7 cL_8 aP_9 cP_10 (passT T t) := ⟨hb17, hoL17, hoP17, hapL17, hapP17, hapLP17, ok17, nv17⟩
            have pt_318 : ¬ rtabS b aL_7 aP_9 b_1 := (fun h1 => h1.elim (fun e => absurd e (by omega)) (fun h1 => h1.elim (fun h => (fun h1 => pr_15 (.inr (.inl h1))) h) (fun h => (fun h1 => pr_15 (.inr (.inr h1))) h)))
            have pt_319 : ∀ q_, rtabS b aL_7 aP_9 q_ → ¬ own (some ⟨b_305, 0, none⟩) q_ := (fun q_ h1 h2 => h1.elim (fun e => pr_311 (e ▸ h2)) (fun h1 => h1.elim (fun h => (fun q_ h1 h2 => pr_312 q_ h2 h1) q_ h h2) (fun h => (fun q_ h1 h2 => pr_313 q_ h2 h1) q_ h h2)))
            have pt_320 : ∀ q_, rtabS b aL_7 aP_9 q_ → ¬ own none q_ := (fun q_ h1 h2 => h1.elim (fun e => (own_none b) (e ▸ h2)) (fun h1 => h1.elim (fun h => (fun q_ h1 h2 => (fun q_ h1 _ => own_none q_ h1) q_ h2 h1) q_ h h2) (fun h => (fun q_ h1 h2 => (fun q_ h1 _ => own_none q_ h1) q_ h2 h1) q_ h h2)))
            have pt_321 : ∀ q_, rtabS b aL_7 aP_9 q_ → q_ < w.heap.size → (rtabS b aL aP) q_ := (fun q_ h1 hlt => h1.elim (fun e => e ▸ (Or.inl rfl)) (fun h1 => h1.elim (fun h => (fun q_ h1 hlt => pg_16 q_ (.inr (.inl h1)) hlt) q_ h hlt) (fun h => (fun q_ h1 hlt => pg_16 q_ (.inr (.inr h1)) hlt) q_ h hlt)))
            clear hb17 hoL17 hoP17
            have e1 : (on T m t).T = passT T t := by rw [e]
            have e2 : (on T m t).out = ([(⟨7, (passT T t).self, (m).frm, (m).req, ⟨#[]⟩, ⟨none, 0, 0⟩, ⟨none, 0, 0⟩, ⟨none, 0, 0⟩, (passT T t).self, 0, (m).n, 0, 0, 0, ⟨none, 0, 0⟩, ⟨none, 0, 0⟩, ⟨none, 0, 0⟩⟩ : MsgC)] : List MsgC) := by rw [e]
            have e3 : (on T m t).told = ([] : List Peer) := by rw [e]; try rfl
            rw [e1, e2, e3]
            exact ⟨_, rfl, aL_7, cL_8, aP_9, cP_10, some ⟨b_305, 0, none⟩, ([(⟨7, (passT T t).self, (m).frm, (m).req, ⟨#[]⟩, ⟨none, 0, 0⟩, ⟨none, 0, 0⟩, ⟨none, 0, 0⟩, (passT T t).self, 0, (m).n, 0, 0, 0, ⟨none, 0, 0⟩, ⟨none, 0, 0⟩, ⟨none, 0, 0⟩⟩ : MsgC)] : List MsgC).length, none, 0, rfl, hR_317, ho_308, ho_316, pw_315, (fun q_ h1 => absurd h1 (own_none q_)), (fun q_ h1 h2 => pt_319 q_ h2 h1), (fun q_ h1 h2 => pt_320 q_ h2 h1), (fun q_ h1 h2 => (fun q_ h1 _ => own_none q_ h1) q_ h2 h1), rtabMoved' (fun x hx hlt => pt_321 x (.inr (.inl hx)) hlt) (fun x hx hlt => pt_321 x (.inr (.inr hx)) hlt), K0⟩
        · try simp only [br] at hc68
          refine Run.skip ?_
          refine Run.seq ?_
          refine Run.seq ?_
          refine Run.region ?_
          refine RL.val (x_fld (o' := 8) Try.underlying61 rfl ty3 rfl rfl rfl) ?_
          refine RL.val (x_ld (v := .int .i64 ((m).owner)) ty3 rfl rfl (hb_4.cl.field (i := 8) rfl)) ?_
          refine RL.st rfl <| St1.call (vals := [.int .i64 ((m).owner)]) en55 rfl (node_ ((m).owner) _) ?_
          rintro _ w_322 ⟨rfl, K_323⟩
          replace hb_4 := hb_4.ext K_323
          replace hb17 := hb17.ext K_323
          replace hoL17 := hoL17.ext K_323
          replace hoP17 := hoP17.ext K_323
          replace K0 := K0.ext K_323
          refine RL.nil ?_
          refine Run.cond rfl (fun hc92 => ?_) (fun hc92 => ?_)
          · try simp only [br] at hc92
            refine Run.seq ?_
            refine Run.region ?_
            refine RL.val (x_moveP rfl) ?_
            refine RL.val (x_fld (o' := 8) Try.underlying61 rfl ty3 rfl rfl rfl) ?_
            refine RL.val (x_ld (v := .int .i64 ((m).owner)) ty3 rfl rfl (hb_4.cl.field (i := 8) rfl)) ?_
            refine RL.val (x_fld (o' := 3) Try.underlying61 rfl ty3 rfl rfl rfl) ?_
            refine RL.val (x_ld (v := .int .i64 ((m).req)) ty3 rfl rfl (hb_4.cl.field (i := 3) rfl)) ?_
            refine RL.val (x_fld (o' := 1) Try.underlying61 rfl ty3 rfl rfl rfl) ?_
            refine RL.val (x_ld (v := .int .i64 ((m).frm)) ty3 rfl rfl (hb_4.cl.field (i := 1) rfl)) ?_
            refine RL.st rfl <| St1.call (vals := [.pointer (some ⟨b, 0, none⟩), .int .i64 ((m).owner), .int .i64 ((m).req), .int .i64 (-1), .int .i64 ((m).frm)]) en54 rfl (sendR_ _ _ _ _ _ (passT T t) ((m).owner) ((m).req) (-1) ((m).frm) _ hb17 hoL17.sl hoP17.sl ok17) ?_
            rintro _ w_324 ⟨rfl, K_325⟩
            replace hb_4 := hb_4.ext K_325
            replace hb17 := hb17.ext K_325
            replace hoL17 := hoL17.ext K_325
            replace hoP17 := hoP17.ext K_325
            replace K0 := K0.ext K_325
            refine RL.st rfl <| St1.buildSlice ([mkMsg 6 (passT T t).self ((m).owner) ((m).req) (-1) ((m).frm)] : List MsgC) Try.underlying34 ty61 rfl rfl (by first | decide | (simp [Enc.size])) ?_
            intro b_326 w_327 hl_330 ho_329 K_328
            have pr_331 : ¬ own (some ⟨b_326, 0, none⟩) b_1 := notNew (ge_new hl_330) hb_4.lt
            have pr_332 : ¬ own (some ⟨b_326, 0, none⟩) b := notNew (ge_new hl_330) hb17.lt
            have pr_333 : ∀ q_, own (some ⟨b_326, 0, none⟩) q_ → ¬ own aL_7 q_ := apartNew (ge_new hl_330) hoL17.own_lt
            have pr_334 : ∀ q_, own (some ⟨b_326, 0, none⟩) q_ → ¬ own aP_9 q_ := apartNew (ge_new hl_330) hoP17.own_lt
            have pg_335 : ∀ q_, own (some ⟨b_326, 0, none⟩) q_ → q_ < w.heap.size → (rtabS b aL aP) q_ := fun q_ h hlt => absurd (Nat.le_trans K0.size ((ge_new hl_330) q_ h)) (by omega)
            have pw_336 : ∀ q_, own (some ⟨b_326, 0, none⟩) q_ → w.heap.size ≤ q_ := fun q_ h => Nat.le_trans K0.size ((ge_new hl_330) q_ h)
            clear hl_330
            replace hb_4 := hb_4.ext K_328
            replace hb17 := hb17.ext K_328
            replace hoL17 := hoL17.ext K_328
            replace hoP17 := hoP17.ext K_328
            replace K0 := K0.ext K_328
            refine RL.val (x_moveSl rfl) ?_
            refine RL.val (x_assignSl rfl) ?_
            refine RL.val (x_assignSl rfl) ?_
            refine RL.nil ?_
            refine Run.ret2 (v := .slice (some ⟨b_326, 0, none⟩) (([mkMsg 6 (passT T t).self ((m).owner) ((m).req) (-1) ((m).frm)] : List MsgC).length) (([mkMsg 6 (passT T t).self ((m).owner) ((m).req) (-1) ((m).frm)] : List MsgC).length)) (x := .slice (none) (0) (0)) Try.func35 rfl rfl rfl ?_
            have ho_337 := OwnSl.nil (α := Peer) w_327 23
            have e := on_ping (T := T) (t := t) hno hc56
            rw [meet_old hk hks] at e
            dsimp only at e
            have e' : pingedT (passT T t) m = ([mkMsg 6 (passT T t).self ((m).owner) ((m).req) (-1) ((m).frm)] : List MsgC) := by rw [pingedT, if_neg (by omega), if_pos (by omega)]; first | done | rfl
            rw [e'] at e
            have hR_338 : RTabAt w_327 b aL_7 cL_8 aP_9 cP_10 (passT T t) := ⟨hb17, hoL17, hoP17, hapL17, hapP17, hapLP17, ok17, nv17⟩
            have pt_339 : ¬ rtabS b aL_7 aP_9 b_1 := (fun h1 => h1.elim (fun e => absurd e (by omega)) (fun h1 => h1.elim (fun h => (fun h1 => pr_15 (.inr (.inl h1))) h) (fun h => (fun h1 => pr_15 (.inr (.inr h1))) h)))
            have pt_340 : ∀ q_, rtabS b aL_7 aP_9 q_ → ¬ own (some ⟨b_326, 0, none⟩) q_ := (fun q_ h1 h2 => h1.elim (fun e => pr_332 (e ▸ h2)) (fun h1 => h1.elim (fun h => (fun q_ h1 h2 => pr_333 q_ h2 h1) q_ h h2) (fun h => (fun q_ h1 h2 => pr_334 q_ h2 h1) q_ h h2)))
            have pt_341 : ∀ q_, rtabS b aL_7 aP_9 q_ → ¬ own none q_ := (fun q_ h1 h2 => h1.elim (fun e => (own_none b) (e ▸ h2)) (fun h1 => h1.elim (fun h => (fun q_ h1 h2 => (fun q_ h1 _ => own_none q_ h1) q_ h2 h1) q_ h h2) (fun h => (fun q_ h1 h2 => (fun q_ h1 _ => own_none q_ h1) q_ h2 h1) q_ h h2)))
            have pt_342 : ∀ q_, rtabS b aL_7 aP_9 q_ → q_ < w.heap.size → (rtabS b aL aP) q_ := (fun q_ h1 hlt => h1.elim (fun e => e ▸ (Or.inl rfl)) (fun h1 => h1.elim (fun h => (fun q_ h1 hlt => pg_16 q_ (.inr (.inl h1)) hlt) q_ h hlt) (fun h => (fun q_ h1 hlt => pg_16 q_ (.inr (.inr h1)) hlt) q_ h hlt)))
            clear hb17 hoL17 hoP17
            have e1 : (on T m t).T = passT T t := by rw [e]
            have e2 : (on T m t).out = ([mkMsg 6 (passT T t).self ((m).owner) ((m).req) (-1) ((m).frm)] : List MsgC) := by rw [e]
            have e3 : (on T m t).told = ([] : List Peer) := by rw [e]; try rfl
            rw [e1, e2, e3]
            exact ⟨_, rfl, aL_7, cL_8, aP_9, cP_10, some ⟨b_326, 0, none⟩, ([mkMsg 6 (passT T t).self ((m).owner) ((m).req) (-1) ((m).frm)] : List MsgC).length, none, 0, rfl, hR_338, ho_329, ho_337, pw_336, (fun q_ h1 => absurd h1 (own_none q_)), (fun q_ h1 h2 => pt_340 q_ h2 h1), (fun q_ h1 h2 => pt_341 q_ h2 h1), (fun q_ h1 h2 => (fun q_ h1 _ => own_none q_ h1) q_ h2 h1), rtabMoved' (fun x hx hlt => pt_342 x (.inr (.inl hx)) hlt) (fun x hx hlt => pt_342 x (.inr (.inr hx)) hlt), K0⟩
          · try simp only [br] at hc92
            refine Run.skip ?_
            refine Run.seq ?_
            refine Run.region ?_
            refine RL.val (x_moveSl rfl) ?_
            refine RL.val (x_assignSl rfl) ?_
            refine RL.val (x_assignSl rfl) ?_
            refine RL.nil ?_
            refine Run.ret2 (v := .slice (none) (0) (0)) (x := .slice (none) (0) (0)) Try.func35 rfl rfl rfl ?_
            have ho_343 := OwnSl.nil (α := MsgC) w_322 61
            have ho_344 := OwnSl.nil (α := Peer) w_322 23
            have e := on_ping (T := T) (t := t) hno hc56
            rw [meet_old hk hks] at e
            dsimp only at e
            have e' : pingedT (passT T t) m = ([] : List MsgC) := by rw [pingedT, if_neg (by omega), if_neg (by omega)]; first | done | rfl
            rw [e'] at e
            have hR_345 : RTabAt w_322 b aL_7 cL_8 aP_9 cP_10 (passT T t) := ⟨hb17, hoL17, hoP17, hapL17, hapP17, hapLP17, ok17, nv17⟩
            have pt_346 : ¬ rtabS b aL_7 aP_9 b_1 := (fun h1 => h1.elim (fun e => absurd e (by omega)) (fun h1 => h1.elim (fun h => (fun h1 => pr_15 (.inr (.inl h1))) h) (fun h => (fun h1 => pr_15 (.inr (.inr h1))) h)))
            have pt_347 : ∀ q_, rtabS b aL_7 aP_9 q_ → ¬ own none q_ := (fun q_ h1 h2 => h1.elim (fun e => (own_none b) (e ▸ h2)) (fun h1 => h1.elim (fun h => (fun q_ h1 h2 => (fun q_ h1 _ => own_none q_ h1) q_ h2 h1) q_ h h2) (fun h => (fun q_ h1 h2 => (fun q_ h1 _ => own_none q_ h1) q_ h2 h1) q_ h h2)))
            have pt_348 : ∀ q_, rtabS b aL_7 aP_9 q_ → ¬ own none q_ := (fun q_ h1 h2 => h1.elim (fun e => (own_none b) (e ▸ h2)) (fun h1 => h1.elim (fun h => (fun q_ h1 h2 => (fun q_ h1 _ => own_none q_ h1) q_ h2 h1) q_ h h2) (fun h => (fun q_ h1 h2 => (fun q_ h1 _ => own_none q_ h1) q_ h2 h1) q_ h h2)))
            have pt_349 : ∀ q_, rtabS b aL_7 aP_9 q_ → q_ < w.heap.size → (rtabS b aL aP) q_ := (fun q_ h1 hlt => h1.elim (fun e => e ▸ (Or.inl rfl)) (fun h1 => h1.elim (fun h => (fun q_ h1 hlt => pg_16 q_ (.inr (.inl h1)) hlt) q_ h hlt) (fun h => (fun q_ h1 hlt => pg_16 q_ (.inr (.inr h1)) hlt) q_ h hlt)))
            clear hb17 hoL17 hoP17
            have e1 : (on T m t).T = passT T t := by rw [e]
            have e2 : (on T m t).out = ([] : List MsgC) := by rw [e]
            have e3 : (on T m t).told = ([] : List Peer) := by rw [e]; try rfl
            rw [e1, e2, e3]
            exact ⟨_, rfl, aL_7, cL_8, aP_9, cP_10, none, 0, none, 0, rfl, hR_345, ho_343, ho_344, (fun q_ h1 => absurd h1 (own_none q_)), (fun q_ h1 => absurd h1 (own_none q_)), (fun q_ h1 h2 => pt_347 q_ h2 h1), (fun q_ h1 h2 => pt_348 q_ h2 h1), (fun q_ h1 _ => own_none q_ h1), rtabMoved' (fun x hx hlt => pt_349 x (.inr (.inl hx)) hlt) (fun x hx hlt => pt_349 x (.inr (.inr hx)) hlt), K0⟩
      · try simp only [br] at hc56
        refine Run.skip ?_
        refine Run.seq ?_
        refine Run.seq ?_
        refine Run.draw' (m := 12) (by kernel_rfl) rfl ?_
        intro w_350 K_351
        replace hb_4 := hb_4.ext K_351
        replace hb17 := hb17.ext K_351
        replace hoL17 := hoL17.ext K_351
        replace hoP17 := hoP17.ext K_351
        replace K0 := K0.ext K_351
        refine RA.take (v := .pointer (some ⟨b_1, 10, none⟩)) 0 rfl (by kernel_rfl) rfl (by rintro _ rfl; exact (x_fld (o' := 10) Try.underlying61 rfl ty3 rfl rfl rfl)) ?_
        refine RA.take (v := .int .i64 ((m).n)) 1 rfl (by kernel_rfl) rfl (by rintro _ rfl; exact (x_ld (v := .int .i64 ((m).n)) ty3 rfl rfl (hb_4.cl.field (i := 10) rfl))) ?_
        refine RA.take (v := .bool (((m).n) == (-1))) 2 rfl (by kernel_rfl) rfl (by rintro _ rfl; exact (x_eqI rfl rfl)) ?_
        refine RA.take (v := .bool (((m).n) == (-1))) 3 rfl (by kernel_rfl) rfl (by rintro _ rfl; exact (x_moveB rfl)) ?_
        refine RA.gtake (v := .pointer (some ⟨b_1, 10, none⟩)) 4 rfl (by kernel_rfl) rfl (wantedF rfl rfl rfl rfl) (fun hg => by rintro _ rfl; exact (x_fld (o' := 10) Try.underlying61 rfl ty3 rfl rfl rfl)) ?_
        refine RA.gtake (v := .int .i64 ((m).n)) 5 rfl (by kernel_rfl) rfl (wantedF rfl rfl rfl rfl) (fun hg => by rintro _ rfl; exact (x_ld (v := .int .i64 ((m).n)) ty3 (gvr hg) rfl (hb_4.cl.field (i := 10) rfl))) ?_
        refine RA.gtake (v := .pointer (some ⟨b, 0, none⟩)) 6 rfl (by kernel_rfl) rfl (wantedF rfl rfl rfl rfl) (fun hg => by rintro _ rfl; exact (x_moveP rfl)) ?_
        refine RA.gtake (v := .pointer (some ⟨b, 0, none⟩)) 7 rfl (by kernel_rfl) rfl (wantedF rfl rfl rfl rfl) (fun hg => by rintro _ rfl; exact (x_nilCheck (gvr hg))) ?_
        refine RA.gtake (v := .pointer (some ⟨b, 0, none⟩)) 8 rfl (by kernel_rfl) rfl (wantedF rfl rfl rfl rfl) (fun hg => by rintro _ rfl; exact (x_fld (o' := 0) Try.underlying94 rfl ty3 rfl (gvr hg) rfl)) ?_
        refine RA.gtake (v := .int .i64 ((passT T t).self)) 9 rfl (by kernel_rfl) rfl (wantedF rfl rfl rfl rfl) (fun hg => by rintro _ rfl; exact (x_ld (v := .int .i64 ((passT T t).self)) ty3 (gvr hg) rfl (hb17.cl.field (i := 0) rfl))) ?_
        refine RA.gtake (v := .bool (((m).n) == ((passT T t).self))) 10 rfl (by kernel_rfl) rfl (wantedF rfl rfl rfl rfl) (fun hg => by rintro _ rfl; exact (x_eqI (gvr hg) (gvr hg))) ?_
        refine RA.take (v := .bool ((((m).n) == (-1)) || (((m).n) == ((passT T t).self)))) 11 rfl (by kernel_rfl) rfl (by rintro _ rfl; exact (x_or rfl rfl rfl)) ?_
        refine RA.done (by kernel_rfl) ?_
        refine Run.cond rfl (fun hc115 => ?_) (fun hc115 => ?_)
        · try simp only [br] at hc115
          refine Run.seq ?_
          refine Run.region ?_
          refine RL.val (x_assignSl rfl) ?_
          refine RL.nil ?_
          refine Run.seq ?_
          refine Run.seq ?_
          refine Run.region ?_
          refine RL.val (x_assignI rfl) ?_
          refine RL.nil ?_
          refine Run.block ?_
          refine Run.loop (ι := Nat) (fun i ρ' w' => ∃ al1 : Option Addr, ∃ cl1 : Nat, Holds ρ' [(0, .pointer (some ⟨b, 0, none⟩)), (4, .pointer (some ⟨b_1, 0, none⟩)), (8, .slice (none) (0) (0)), (11, .slice (al1) ((((passT T t).pings.take i).filter (fun p => !((p.target == m.owner) && (p.req == m.req)))).length) (cl1)), (12, .int .i64 (((i : Nat) : Int)))] ∧ Keeps (rtabS b aL aP) w w' ∧ (Blk w' b_1 [.int .i64 ((m).kind), .int .i64 ((m).frm), .int .i64 ((m).to), .int .i64 ((m).req), .string ((m).key), .slice ((m).entries.a) ((m).entries.len) ((m).entries.cap), .slice ((m).marks.a) ((m).marks.len) ((m).marks.cap), .slice ((m).cloud.a) ((m).cloud.len) ((m).cloud.cap), .int .i64 ((m).owner), .int .i64 ((m).part), .int .i64 ((m).n), .int .i64 ((m).rparts), .int .i64 ((m).rcopies), .int .i64 ((m).rspots), .slice ((m).members.a) ((m).members.len) ((m).members.cap), .slice ((m).peers.a) ((m).peers.len) ((m).peers.cap), .slice ((m).sums.a) ((m).sums.len) ((m).sums.cap)] 61) ∧ (Blk w' b [.int .i64 ((passT T t).self), .int .i64 ((passT T t).now), .slice (aL_7) ((knownL (passT T t).l).length) (cL_8), .slice (aP_9) ((passT T t).pings.length) (cP_10), .int .i64 ((passT T t).req), .bool ((passT T t).begun), .int .i64 ((passT T t).last), .int .i64 ((passT T t).target)] 94) ∧ (OwnSl w' 90 (aL_7) (cL_8) (knownL (passT T t).l)) ∧ (OwnSl w' 98 (aP_9) (cP_10) ((passT T t).pings)) ∧ (OwnSl w' 98 al1 cl1 (((passT T t).pings.take i).filter (fun p => !((p.target == m.owner) && (p.req == m.req))))) ∧ (¬ own al1 b_1) ∧ (¬ own al1 b) ∧ (∀ q_, own al1 q_ → ¬ own aL_7 q_) ∧ (∀ q_, own al1 q_ → ¬ own aP_9 q_) ∧ (∀ q_, own al1 q_ → q_ < w.heap.size → (rtabS b aL aP) q_) ∧ (∀ q_, own al1 q_ → w.heap.size ≤ q_) ∧ (i ≤ (passT T t).pings.length)) (fun i => (passT T t).pings.length - i) 0 ?_ ?_
          · rw [show (((passT T t).pings.take 0).filter (fun p => !((p.target == m.owner) && (p.req == m.req)))) = [] from by simp]
            have ho_361 := OwnSl.nil (α := Ping) w_350 98
            refine ⟨_, _, ⟨rfl, rfl, rfl, rfl, rfl, trivial⟩, K0, hb_4, hb17, hoL17, hoP17, ho_361, (own_none b_1), (own_none b), (fun q_ h1 _ => own_none q_ h1), (fun q_ h1 _ => own_none q_ h1), (fun q_ h1 _ => absurd h1 (own_none q_)), (fun q_ h1 => absurd h1 (own_none q_)), ?_⟩
            · omega
          clear hb_4 hb17 hoL17 hoP17
          clear K0
          rintro i ρ_362 w_352 ⟨al1, cl1, hH_353, K0, hb_4, hb17, hoL17, hoP17, ho_354, pr_355, pr_356, pr_357, pr_358, pr_359, pr_360, hi⟩ ih2
          obtain ⟨ρ₀, rfl⟩ := hH_353.ex
          clear hH_353
          refine Run.seq ?_
          refine Run.seq ?_
          refine Run.region ?_
          refine RL.val (x_moveI rfl) ?_
          refine RL.val (x_moveP rfl) ?_
          refine RL.val (x_nilCheck rfl) ?_
          refine RL.val (x_fld (o' := 3) Try.underlying94 rfl ty92 rfl rfl rfl) ?_
          refine RL.val (x_ld (v := .slice (aP_9) ((passT T t).pings.length) (cP_10)) ty92 rfl rfl (hb17.cl.field (i := 3) rfl)) ?_
          refine RL.val (x_lenSl Try.underlying92 rfl) ?_
          refine RL.val (x_ltI rfl rfl) ?_
          refine RL.nil ?_
          refine Run.cond rfl (fun hc122 => ?_) (fun hc122 => ?_)
          · try simp only [br] at hc122
            refine Run.skip ?_
            refine Run.seq ?_
            refine Run.block ?_
            refine Run.seq ?_
            obtain ⟨b_365, o_366, y, hy, ha_367, hc_368⟩ := hoP17.sl.el (i := i) (by first | omega | (simp only [List.length_set]; omega))
            obtain ⟨b_371, o_372, x_375, hx_376, ha_373, hc_374⟩ := hoP17.sl.el (i := i) (by first | omega | (simp only [List.length_set]; omega))
            obtain rfl : y = x_375 := Option.some.inj (hy.symm.trans hx_376)
            refine Run.draw' (m := 24) (by kernel_rfl) rfl ?_
            intro w_363 K_364
            replace hb_4 := hb_4.ext K_364
            replace hb17 := hb17.ext K_364
            replace hoL17 := hoL17.ext K_364
            replace hoP17 := hoP17.ext K_364
            replace ho_354 := ho_354.ext K_364
            replace hc_368 := hc_368.ext K_364
            replace hc_374 := hc_374.ext K_364
            replace K0 := K0.ext K_364
            refine RA.take (v := .pointer (some ⟨b, 0, none⟩)) 0 rfl (by kernel_rfl) rfl (by rintro _ rfl; exact (x_moveP rfl)) ?_
            refine RA.take (v := .pointer (some ⟨b, 0, none⟩)) 1 rfl (by kernel_rfl) rfl (by rintro _ rfl; exact (x_nilCheck rfl)) ?_
            refine RA.take (v := .pointer (some ⟨b, 3, none⟩)) 2 rfl (by kernel_rfl) rfl (by rintro _ rfl; exact (x_fld (o' := 3) Try.underlying94 rfl ty92 rfl rfl rfl)) ?_
            refine RA.take (v := .slice (aP_9) ((passT T t).pings.length) (cP_10)) 3 rfl (by kernel_rfl) rfl (by rintro _ rfl; exact (x_ld (v := .slice (aP_9) ((passT T t).pings.length) (cP_10)) ty92 rfl rfl (hb17.cl.field (i := 3) rfl))) ?_
            refine RA.take (v := .int .i64 (((i : Nat) : Int))) 4 rfl (by kernel_rfl) rfl (by rintro _ rfl; exact (x_moveI rfl)) ?_
            refine RA.take (v := .pointer (some ⟨b_365, o_366 + i * 4, none⟩)) 5 rfl (by kernel_rfl) rfl (by rintro _ rfl; exact (x_idxN Try.underlying92 ty98 rfl rfl ha_367 (by first | omega | (simp only [List.length_set]; omega)))) ?_
            refine RA.take (v := .pointer (some ⟨b_365, o_366 + i * 4 + 0, none⟩)) 6 rfl (by kernel_rfl) rfl (by rintro _ rfl; exact (x_fld (o' := o_366 + i * 4 + 0) Try.underlying98 rfl ty3 rfl rfl rfl)) ?_
            refine RA.take (v := .int .i64 ((y).target)) 7 rfl (by kernel_rfl) rfl (by rintro _ rfl; exact (x_ld ty3 rfl rfl (hc_368.field (i := 0) rfl))) ?_
            refine RA.take (v := .pointer (some ⟨b_1, 8, none⟩)) 8 rfl (by kernel_rfl) rfl (by rintro _ rfl; exact (x_fld (o' := 8) Try.underlying61 rfl ty3 rfl rfl rfl)) ?_
            refine RA.take (v := .int .i64 ((m).owner)) 9 rfl (by kernel_rfl) rfl (by rintro _ rfl; exact (x_ld (v := .int .i64 ((m).owner)) ty3 rfl rfl (hb_4.cl.field (i := 8) rfl))) ?_
            refine RA.take (v := .bool (((y).target) != ((m).owner))) 10 rfl (by kernel_rfl) rfl (by rintro _ rfl; exact (x_neI rfl rfl)) ?_
            refine RA.take (v := .bool (((y).target) != ((m).owner))) 11 rfl (by kernel_rfl) rfl (by rintro _ rfl; exact (x_moveB rfl)) ?_
            refine RA.gtake (v := .pointer (some ⟨b, 0, none⟩)) 12 rfl (by kernel_rfl) rfl (wantedF rfl rfl rfl rfl) (fun hg => by rintro _ rfl; exact (x_moveP rfl)) ?_
            refine RA.gtake (v := .pointer (some ⟨b, 0, none⟩)) 13 rfl (by kernel_rfl) rfl (wantedF rfl rfl rfl rfl) (fun hg => by rintro _ rfl; exact (x_nilCheck (gvr hg))) ?_
            refine RA.gtake (v := .pointer (some ⟨b, 3, none⟩)) 14 rfl (by kernel_rfl) rfl (wantedF rfl rfl rfl rfl) (fun hg => by rintro _ rfl; exact (x_fld (o' := 3) Try.underlying94 rfl ty92 rfl (gvr hg) rfl)) ?_
            refine RA.gtake (v := .slice (aP_9) ((passT T t).pings.length) (cP_10)) 15 rfl (by kernel_rfl) rfl (wantedF rfl rfl rfl rfl) (fun hg => by rintro _ rfl; exact (x_ld (v := .slice (aP_9) ((passT T t).pings.length) (cP_10)) ty92 (gvr hg) rfl (hb17.cl.field (i := 3) rfl))) ?_
            refine RA.gtake (v := .int .i64 (((i : Nat) : Int))) 16 rfl (by kernel_rfl) rfl (wantedF rfl rfl rfl rfl) (fun hg => by rintro _ rfl; exact (x_moveI rfl)) ?_
            refine RA.gtake (v := .pointer (some ⟨b_371, o_372 + i * 4, none⟩)) 17 rfl (by kernel_rfl) rfl (wantedF rfl rfl rfl rfl) (fun hg => by rintro _ rfl; exact (x_idxN Try.underlying92 ty98 (gvr hg) (gvr hg) ha_373 (by first | omega | (simp only [List.length_set]; omega)))) ?_
            refine RA.gtake (v := .pointer (some ⟨b_371, o_372 + i * 4 + 1, none⟩)) 18 rfl (by kernel_rfl) rfl (wantedF rfl rfl rfl rfl) (fun hg => by rintro _ rfl; exact (x_fld (o' := o_372 + i * 4 + 1) Try.underlying98 rfl ty3 rfl (gvr hg) rfl)) ?_
            refine RA.gtake (v := .int .i64 ((y).req)) 19 rfl (by kernel_rfl) rfl (wantedF rfl rfl rfl rfl) (fun hg => by rintro _ rfl; exact (x_ld ty3 (gvr hg) rfl (hc_374.field (i := 1) rfl))) ?_
            refine RA.gtake (v := .pointer (some ⟨b_1, 3, none⟩)) 20 rfl (by kernel_rfl) rfl (wantedF rfl rfl rfl rfl) (fun hg => by rintro _ rfl; exact (x_fld (o' := 3) Try.underlying61 rfl ty3 rfl rfl rfl)) ?_
            refine RA.gtake (v := .int .i64 ((m).req)) 21 rfl (by kernel_rfl) rfl (wantedF rfl rfl rfl rfl) (fun hg => by rintro _ rfl; exact (x_ld (v := .int .i64 ((m).req)) ty3 (gvr hg) rfl (hb_4.cl.field (i := 3) rfl))) ?_
            refine RA.gtake (v := .bool (((y).req) != ((m).req))) 22 rfl (by kernel_rfl) rfl (wantedF rfl rfl rfl rfl) (fun hg => by rintro _ rfl; exact (x_neI (gvr hg) (gvr hg))) ?_
            refine RA.take (v := .bool ((((y).target) != ((m).owner)) || (((y).req) != ((m).req)))) 23 rfl (by kernel_rfl) rfl (by rintro _ rfl; exact (x_or rfl rfl rfl)) ?_
            refine RA.done (by kernel_rfl) ?_
            refine Run.cond rfl (fun hc148 => ?_) (fun hc148 => ?_)
            · try simp only [br] at hc148
              have hfl := filt_len (f := (fun p => !((p.target == m.owner) && (p.req == m.req)))) (l := (passT T t).pings) (i := i)
              refine Run.region ?_
              refine RL.val (x_moveSl rfl) ?_
              refine RL.val (x_moveP rfl) ?_
              refine RL.val (x_nilCheck rfl) ?_
              refine RL.val (x_fld (o' := 3) Try.underlying94 rfl ty92 rfl rfl rfl) ?_
              refine RL.val (x_ld (v := .slice (aP_9) ((passT T t).pings.length) (cP_10)) ty92 rfl rfl (hb17.cl.field (i := 3) rfl)) ?_
              refine RL.val (x_moveI rfl) ?_
              obtain ⟨b_377, o_378, x_381, hx_382, ha_379, hc_380⟩ := hoP17.sl.el (i := i) (by first | omega | (simp only [List.length_set]; omega))
              obtain rfl : y = x_381 := Option.some.inj (hy.symm.trans hx_382)
              refine RL.val (x_idxN Try.underlying92 ty98 rfl rfl ha_379 (by first | omega | (simp only [List.length_set]; omega))) ?_
              refine RL.val (x_ldV (v := .agg #[.int .i64 ((y).target), .int .i64 ((y).req), .int .i64 ((y).since), .bool ((y).others)]) (y := y) ty98 rfl hc_380 rfl) ?_
              refine RL.st rfl <| St1.buildSlice ([y] : List Ping) Try.underlying92 ty98 rfl rfl (by first | decide | (simp [Enc.size])) ?_
              intro b_383 w_384 hl_387 ho_386 K_385
              have pr_388 : ¬ own (some ⟨b_383, 0, none⟩) b_1 := notNew (ge_new hl_387) hb_4.lt
              have pr_389 : ¬ own (some ⟨b_383, 0, none⟩) b := notNew (ge_new hl_387) hb17.lt
              have pr_390 : ∀ q_, own (some ⟨b_383, 0, none⟩) q_ → ¬ own aL_7 q_ := apartNew (ge_new hl_387) hoL17.own_lt
              have pr_391 : ∀ q_, own (some ⟨b_383, 0, none⟩) q_ → ¬ own aP_9 q_ := apartNew (ge_new hl_387) hoP17.own_lt
              have pr_392 : ∀ q_, own (some ⟨b_383, 0, none⟩) q_ → ¬ own al1 q_ := apartNew (ge_new hl_387) ho_354.own_lt
              have pg_393 : ∀ q_, own (some ⟨b_383, 0, none⟩) q_ → q_ < w.heap.size → (rtabS b aL aP) q_ := fun q_ h hlt => absurd (Nat.le_trans K0.size ((ge_new hl_387) q_ h)) (by omega)
              have pw_394 : ∀ q_, own (some ⟨b_383, 0, none⟩) q_ → w.heap.size ≤ q_ := fun q_ h => Nat.le_trans K0.size ((ge_new hl_387) q_ h)
              clear hl_387
              replace hb_4 := hb_4.ext K_385
              replace hb17 := hb17.ext K_385
              replace hoL17 := hoL17.ext K_385
              replace hoP17 := hoP17.ext K_385
              replace ho_354 := ho_354.ext K_385
              replace hc_380 := hc_380.ext K_385
              replace K0 := K0.ext K_385
              refine RL.st rfl <| St1.append (xs := ((passT T t).pings.take i).filter (fun p => !((p.target == m.owner) && (p.req == m.req)))) (ys := ([y] : List Ping)) Try.underlying92 ty98 rfl rfl rfl ho_354 ho_386.sl (by first | omega | (simp only [lr]; omega)) (by decide) ?_
              intro a_395 c_396 w_397 ho_398 K_399 hm_400 hrm_401
              have pr_402 : ¬ own a_395 b_1 := hm_400.not pr_355 hb_4.lt
              have pr_403 : ¬ own a_395 b := hm_400.not pr_356 hb17.lt
              have pr_404 : ∀ q_, own a_395 q_ → ¬ own aL_7 q_ := hm_400.apart pr_357 hoL17.own_lt
              have pr_405 : ∀ q_, own a_395 q_ → ¬ own aP_9 q_ := hm_400.apart pr_358 hoP17.own_lt
              have pr_406 : ∀ q_, own a_395 q_ → ¬ own (some ⟨b_383, 0, none⟩) q_ := hm_400.apart (fun q_ h1 h2 => pr_392 q_ h2 h1) ho_386.own_lt
              have pg_407 : ∀ q_, own a_395 q_ → q_ < w.heap.size → (rtabS b aL aP) q_ := hm_400.inS pr_359 K0.size
              have pw_408 : ∀ q_, own a_395 q_ → w.heap.size ≤ q_ := hm_400.ge pr_360 K0.size
              replace hb_4 := hb_4.keep K_399 pr_355
              replace hb17 := hb17.keep K_399 pr_356
              replace hoL17 := hoL17.keepO K_399 (fun q_ h1 h2 => pr_357 q_ h2 h1)
              replace hoP17 := hoP17.keepO K_399 (fun q_ h1 h2 => pr_358 q_ h2 h1)
              replace hc_380 := hc_380.keep K_399 (fun h => (fun q_ h1 h2 => pr_358 q_ h2 h1) _ ((own_sub _) _ ha_379) h)
              replace ho_386 := ho_386.keepO K_399 pr_392
              replace K0 := K0.trans K_399 (fun x hlt hx => pr_359 x hx hlt)
              clear hm_400
              clear hrm_401
              refine RL.val (x_assignSl rfl) ?_
              refine RL.nil ?_
              refine Run.inBlock ?_
              refine Run.region ?_
              refine RL.val (x_moveI rfl) ?_
              refine RL.val (litI (c := ((i + 1 : Nat) : Int)) (x_add rfl rfl (by omega) (by omega)) rfl) ?_
              refine RL.val (x_assignI rfl) ?_
              refine RL.nil ?_
              have e := filt_yes (f := (fun p => !((p.target == m.owner) && (p.req == m.req)))) hy (by simpa using hc148)
              refine ih2 (i + 1) _ _ ?_ (by omega)
              rw [e]
              refine ⟨_, _, ⟨rfl, rfl, rfl, rfl, rfl, trivial⟩, K0, hb_4, hb17, hoL17, hoP17, ho_398, pr_402, pr_403, pr_404, pr_405, pg_407, pw_408, ?_⟩
              · omega
            · try simp only [br] at hc148
              refine Run.skip ?_
              refine Run.inBlock ?_
              refine Run.region ?_
              refine RL.val (x_moveI rfl) ?_
              refine RL.val (litI (c := ((i + 1 : Nat) : Int)) (x_add rfl rfl (by omega) (by omega)) rfl) ?_
              refine RL.val (x_assignI rfl) ?_
              refine RL.nil ?_
              have e := filt_no (f := (fun p => !((p.target == m.owner) && (p.req == m.req)))) hy (by simp; omega)
              refine ih2 (i + 1) _ _ ?_ (by omega)
              rw [e]
              refine ⟨_, _, ⟨rfl, rfl, rfl, rfl, rfl, trivial⟩, K0, hb_4, hb17, hoL17, hoP17, ho_354, pr_355, pr_356, pr_357, pr_358, pr_359, pr_360, ?_⟩
              · omega
          · try simp only [br] at hc122
            refine Run.exit rfl ?_
            refine Run.seq ?_
            refine Run.region ?_
            refine RL.val (x_moveP rfl) ?_
            refine RL.val (x_moveSl rfl) ?_
            refine RL.val (x_nilCheck rfl) ?_
            refine RL.val (x_fld (o' := 3) Try.underlying94 rfl ty92 rfl rfl rfl) ?_
            refine RL.st rfl <| St1.store (v := .slice (al1) ((((passT T t).pings.take i).filter (fun p => !((p.target == m.owner) && (p.req == m.req)))).length) (cl1)) ty92 rfl rfl rfl (by simp [Value.cells, Value.oneCell']) hb17 (by simp) ?_
            intro w_409 hb17_ K_410
            have hb17' : Blk w_409 b [.int .i64 ((passT T t).self), .int .i64 ((passT T t).now), .slice (aL_7) ((knownL (passT T t).l).length) (cL_8), .slice (al1) ((((passT T t).pings.take i).filter (fun p => !((p.target == m.owner) && (p.req == m.req)))).length) (cl1), .int .i64 ((passT T t).req), .bool ((passT T t).begun), .int .i64 ((passT T t).last), .int .i64 ((passT T t).target)] 94 := hb17_
            clear hb17_
            replace hb_4 := hb_4.keep K_410 (by simp only [one]; omega)
            replace hoL17 := hoL17.keepO K_410 (fun q_ hq_ eq_ => hapL17 (by simp only [one] at eq_; rw [← eq_]; exact hq_))
            replace hoP17 := hoP17.keepO K_410 (fun q_ hq_ eq_ => hapP17 (by simp only [one] at eq_; rw [← eq_]; exact hq_))
            replace ho_354 := ho_354.keepO K_410 (fun q_ hq_ eq_ => pr_356 (by simp only [one] at eq_; rw [← eq_]; exact hq_))
            replace K0 := K0.trans K_410 (fun x _ hx => by simp only [one] at hx; subst hx; exact (Or.inl rfl))
            replace hb17 := hb17'
            clear hb17'
            refine RL.nil ?_
            refine Run.seq ?_
            refine Run.region ?_
            refine RL.val (x_moveSl rfl) ?_
            refine RL.val (x_assignSl rfl) ?_
            refine RL.val (x_assignSl rfl) ?_
            refine RL.nil ?_
            refine Run.ret2 (v := .slice (none) (0) (0)) (x := .slice (none) (0) (0)) Try.func35 rfl rfl rfl ?_
            have ho_411 := OwnSl.nil (α := MsgC) w_409 61
            have ho_412 := OwnSl.nil (α := Peer) w_409 23
            have hil : i = (passT T t).pings.length := by omega
            rw [hil, List.take_length] at hb17 ho_354
            have e := on_pong (T := T) (t := t) hno hc56
            rw [meet_old hk hks] at e
            dsimp only at e
            have e' : pongedT (passT T t) m = ({ passT T t with pings := (passT T t).pings.filter (fun p => !((p.target == m.owner) && (p.req == m.req))) }, ([] : List MsgC)) := by rw [pongedT, if_pos hc115]; first | done | rfl
            rw [e'] at e
            have hpo := (ponged_ok (m := m) ok17).1
            rw [e'] at hpo
            have hR_413 : RTabAt w_409 b aL_7 cL_8 al1 cl1 ({ passT T t with pings := (passT T t).pings.filter (fun p => !((p.target == m.owner) && (p.req == m.req))) }) := ⟨hb17, hoL17, ho_354, hapL17, pr_356, (fun q_ h1 h2 => pr_357 q_ h2 h1), hpo, ⟨nv17.self, nv17.own, fun q hq => nv17.far q (List.mem_filter.1 hq).1⟩⟩
            have pt_414 : ¬ rtabS b aL_7 al1 b_1 := (fun h1 => h1.elim (fun e => absurd e (by omega)) (fun h1 => h1.elim (fun h => (fun h1 => pr_15 (.inr (.inl h1))) h) (fun h => pr_355 h)))
            have pt_415 : ∀ q_, rtabS b aL_7 al1 q_ → ¬ own aP_9 q_ := (fun q_ h1 h2 => h1.elim (fun e => hapP17 (e ▸ h2)) (fun h1 => h1.elim (fun h => hapLP17 q_ h h2) (fun h => pr_358 q_ h h2)))
            have pt_416 : ∀ q_, rtabS b aL_7 al1 q_ → ¬ own none q_ := (fun q_ h1 h2 => h1.elim (fun e => (own_none b) (e ▸ h2)) (fun h1 => h1.elim (fun h => (fun q_ h1 h2 => (fun q_ h1 _ => own_none q_ h1) q_ h2 h1) q_ h h2) (fun h => (fun q_ h1 h2 => (fun q_ h1 _ => own_none q_ h1) q_ h2 h1) q_ h h2)))
            have pt_417 : ∀ q_, rtabS b aL_7 al1 q_ → ¬ own none q_ := (fun q_ h1 h2 => h1.elim (fun e => (own_none b) (e ▸ h2)) (fun h1 => h1.elim (fun h => (fun q_ h1 h2 => (fun q_ h1 _ => own_none q_ h1) q_ h2 h1) q_ h h2) (fun h => (fun q_ h1 h2 => (fun q_ h1 _ => own_none q_ h1) q_ h2 h1) q_ h h2)))
            have pt_418 : ∀ q_, rtabS b aL_7 al1 q_ → q_ < w.heap.size → (rtabS b aL aP) q_ := (fun q_ h1 hlt => h1.elim (fun e => e ▸ (Or.inl rfl)) (fun h1 => h1.elim (fun h => (fun q_ h1 hlt => pg_16 q_ (.inr (.inl h1)) hlt) q_ h hlt) (fun h => pr_359 q_ h hlt)))
            clear hb17 hoL17 ho_354
            have e1 : (on T m t).T = { passT T t with pings := (passT T t).pings.filter (fun p => !((p.target == m.owner) && (p.req == m.req))) } := by rw [e]
            have e2 : (on T m t).out = ([] : List MsgC) := by rw [e]
            have e3 : (on T m t).told = ([] : List Peer) := by rw [e]; try rfl
            rw [e1, e2, e3]
            exact ⟨_, rfl, aL_7, cL_8, al1, cl1, none, 0, none, 0, rfl, hR_413, ho_411, ho_412, (fun q_ h1 => absurd h1 (own_none q_)), (fun q_ h1 => absurd h1 (own_none q_)), (fun q_ h1 h2 => pt_416 q_ h2 h1), (fun q_ h1 h2 => pt_417 q_ h2 h1), (fun q_ h1 _ => own_none q_ h1), rtabMoved' (fun x hx hlt => pt_418 x (.inr (.inl hx)) hlt) (fun x hx hlt => pt_418 x (.inr (.inr hx)) hlt), K0⟩
        · try simp only [br] at hc115
          refine Run.skip ?_
          refine Run.seq ?_
          refine Run.seq ?_
          refine Run.region ?_
          refine RL.val (x_fld (o' := 10) Try.underlying61 rfl ty3 rfl rfl rfl) ?_
          refine RL.val (x_ld (v := .int .i64 ((m).n)) ty3 rfl rfl (hb_4.cl.field (i := 10) rfl)) ?_
          refine RL.st rfl <| St1.call (vals := [.int .i64 ((m).n)]) en55 rfl (node_ ((m).n) _) ?_
          rintro _ w_419 ⟨rfl, K_420⟩
          replace hb_4 := hb_4.ext K_420
          replace hb17 := hb17.ext K_420
          replace hoL17 := hoL17.ext K_420
          replace hoP17 := hoP17.ext K_420
          replace K0 := K0.ext K_420
          refine RL.nil ?_
          refine Run.cond rfl (fun hc166 => ?_) (fun hc166 => ?_)
          · try simp only [br] at hc166
            refine Run.seq ?_
            refine Run.drawT [] (m := 15) (by kernel_rfl) rfl ?_
            intro w_421 K_422
            replace hb_4 := hb_4.ext K_422
            replace hb17 := hb17.ext K_422
            replace hoL17 := hoL17.ext K_422
            replace hoP17 := hoP17.ext K_422
            replace K0 := K0.ext K_422
            refine ⟨fun w' => Blk w' b_1 [.int .i64 ((m).kind), .int .i64 ((m).frm), .int .i64 ((m).to), .int .i64 ((m).req), .string ((m).key), .slice ((m).entries.a) ((m).entries.len) ((m).entries.cap), .slice ((m).marks.a) ((m).marks.len) ((m).marks.cap), .slice ((m).cloud.a) ((m).cloud.len) ((m).cloud.cap), .int .i64 ((m).owner), .int .i64 ((m).part), .int .i64 ((m).n), .int .i64 ((m).rparts), .int .i64 ((m).rcopies), .int .i64 ((m).rspots), .slice ((m).members.a) ((m).members.len) ((m).members.cap), .slice ((m).peers.a) ((m).peers.len) ((m).peers.cap), .slice ((m).sums.a) ((m).sums.len) ((m).sums.cap)] 61 ∧ Blk w' b [.int .i64 ((passT T t).self), .int .i64 ((passT T t).now), .slice (aL_7) ((knownL (passT T t).l).length) (cL_8), .slice (aP_9) ((passT T t).pings.length) (cP_10), .int .i64 ((passT T t).req), .bool ((passT T t).begun), .int .i64 ((passT T t).last), .int .i64 ((passT T t).target)] 94 ∧ True, ?_⟩
            refine RT.takeP (v := .pointer (some ⟨b, 0, none⟩)) 0 rfl (by kernel_rfl) (.inr ⟨hb_4, hb17, trivial⟩) (fun _ => (x_moveP rfl)) ?_
            refine RT.takeP (v := .pointer (some ⟨b, 0, none⟩)) 1 rfl (by kernel_rfl) (.inr ⟨hb_4, hb17, trivial⟩) (fun _ => (x_nilCheck rfl)) ?_
            refine RT.takeP (v := .pointer (some ⟨b, 0, none⟩)) 2 rfl (by kernel_rfl) (.inr ⟨hb_4, hb17, trivial⟩) (fun _ => (x_fld (o' := 0) Try.underlying94 rfl ty3 rfl rfl rfl)) ?_
            refine RT.take (v := .int .i64 ((passT T t).self)) 3 rfl (by kernel_rfl) ⟨hb_4, hb17, trivial⟩ (by rintro _ ⟨hb_4, hb17, -⟩; exact (x_ld (v := .int .i64 ((passT T t).self)) ty3 rfl rfl (hb17.cl.field (i := 0) rfl))) ?_
            refine RT.takeP (v := .pointer (some ⟨b_1, 10, none⟩)) 4 rfl (by kernel_rfl) (.inr ⟨hb_4, hb17, trivial⟩) (fun _ => (x_fld (o' := 10) Try.underlying61 rfl ty3 rfl rfl rfl)) ?_
            refine RT.take (v := .int .i64 ((m).n)) 5 rfl (by kernel_rfl) ⟨hb_4, hb17, trivial⟩ (by rintro _ ⟨hb_4, hb17, -⟩; exact (x_ld (v := .int .i64 ((m).n)) ty3 rfl rfl (hb_4.cl.field (i := 10) rfl))) ?_
            refine RT.takeP (v := .pointer (some ⟨b_1, 3, none⟩)) 6 rfl (by kernel_rfl) (.inr ⟨hb_4, hb17, trivial⟩) (fun _ => (x_fld (o' := 3) Try.underlying61 rfl ty3 rfl rfl rfl)) ?_
            refine RT.take (v := .int .i64 ((m).req)) 7 rfl (by kernel_rfl) ⟨hb_4, hb17, trivial⟩ (by rintro _ ⟨hb_4, hb17, -⟩; exact (x_ld (v := .int .i64 ((m).req)) ty3 rfl rfl (hb_4.cl.field (i := 3) rfl))) ?_
            refine RT.takeP (v := .pointer (some ⟨b_1, 8, none⟩)) 8 rfl (by kernel_rfl) (.inr ⟨hb_4, hb17, trivial⟩) (fun _ => (x_fld (o' := 8) Try.underlying61 rfl ty3 rfl rfl rfl)) ?_
            refine RT.take (v := .int .i64 ((m).owner)) 9 rfl (by kernel_rfl) ⟨hb_4, hb17, trivial⟩ (by rintro _ ⟨hb_4, hb17, -⟩; exact (x_ld (v := .int .i64 ((m).owner)) ty3 rfl rfl (hb_4.cl.field (i := 8) rfl))) ?_
            refine RT.takeP (v := .agg #[.int .i64 (7), .int .i64 ((passT T t).self), .int .i64 ((m).n), .int .i64 ((m).req), .string (⟨#[]⟩), .slice (none) (0) (0), .slice (none) (0) (0), .slice (none) (0) (0), .int .i64 ((m).owner), .int .i64 (0), .int .i64 (-1), .int .i64 (0), .int .i64 (0), .int .i64 (0), .slice (none) (0) (0), .slice (none) (0) (0), .slice (none) (0) (0)]) 10 rfl (by kernel_rfl) (.inr ⟨hb_4, hb17, trivial⟩) (fun _ => (x_build (cells := #[.int .i64 (7), .int .i64 ((passT T t).self), .int .i64 ((m).n), .int .i64 ((m).req), .string (⟨#[]⟩), .slice (none) (0) (0), .slice (none) (0) (0), .slice (none) (0) (0), .int .i64 ((m).owner), .int .i64 (0), .int .i64 (-1), .int .i64 (0), .int .i64 (0), .int .i64 (0), .slice (none) (0) (0), .slice (none) (0) (0), .slice (none) (0) (0)]) (by kernel_rfl))) ?_
            refine RT.takeP (v := .slice (none) (0) (0)) 12 rfl (by kernel_rfl) (.inr ⟨hb_4, hb17, trivial⟩) (fun _ => (x_moveSl rfl)) ?_
            refine RT.st 11 rfl (by kernel_rfl) rfl <| St1.buildSlice ([(⟨7, (passT T t).self, (m).n, (m).req, ⟨#[]⟩, ⟨none, 0, 0⟩, ⟨none, 0, 0⟩, ⟨none, 0, 0⟩, (m).owner, 0, -1, 0, 0, 0, ⟨none, 0, 0⟩, ⟨none, 0, 0⟩, ⟨none, 0, 0⟩⟩ : MsgC)] : List MsgC) Try.underlying34 ty61 rfl rfl (by first | decide | (simp [Enc.size])) ?_
            intro b_423 w_424 hl_427 ho_426 K_425
            have pr_428 : ¬ own (some ⟨b_423, 0, none⟩) b_1 := notNew (ge_new hl_427) hb_4.lt
            have pr_429 : ¬ own (some ⟨b_423, 0, none⟩) b := notNew (ge_new hl_427) hb17.lt
            have pr_430 : ∀ q_, own (some ⟨b_423, 0, none⟩) q_ → ¬ own aL_7 q_ := apartNew (ge_new hl_427) hoL17.own_lt
            have pr_431 : ∀ q_, own (some ⟨b_423, 0, none⟩) q_ → ¬ own aP_9 q_ := apartNew (ge_new hl_427) hoP17.own_lt
            have pg_432 : ∀ q_, own (some ⟨b_423, 0, none⟩) q_ → q_ < w.heap.size → (rtabS b aL aP) q_ := fun q_ h hlt => absurd (Nat.le_trans K0.size ((ge_new hl_427) q_ h)) (by omega)
            have pw_433 : ∀ q_, own (some ⟨b_423, 0, none⟩) q_ → w.heap.size ≤ q_ := fun q_ h => Nat.le_trans K0.size ((ge_new hl_427) q_ h)
            clear hl_427
            replace hb_4 := hb_4.ext K_425
            replace hb17 := hb17.ext K_425
            replace hoL17 := hoL17.ext K_425
            replace hoP17 := hoP17.ext K_425
            replace K0 := K0.ext K_425
            refine ⟨.inr ⟨hb_4, hb17, trivial⟩, ?_⟩
            refine RT.takeP (v := .slice (some ⟨b_423, 0, none⟩) (([(⟨7, (passT T t).self, (m).n, (m).req, ⟨#[]⟩, ⟨none, 0, 0⟩, ⟨none, 0, 0⟩, ⟨none, 0, 0⟩, (m).owner, 0, -1, 0, 0, 0, ⟨none, 0, 0⟩, ⟨none, 0, 0⟩, ⟨none, 0, 0⟩⟩ : MsgC)] : List MsgC).length) (([(⟨7, (passT T t).self, (m).n, (m).req, ⟨#[]⟩, ⟨none, 0, 0⟩, ⟨none, 0, 0⟩, ⟨none, 0, 0⟩, (m).owner, 0, -1, 0, 0, 0, ⟨none, 0, 0⟩, ⟨none, 0, 0⟩, ⟨none, 0, 0⟩⟩ : MsgC)] : List MsgC).length)) 13 rfl (by kernel_rfl) (.inr ⟨hb_4, hb17, trivial⟩) (fun _ => (x_assignSl rfl)) ?_
            refine RT.takeP (v := .slice (none) (0) (0)) 14 rfl (by kernel_rfl) (.inr ⟨hb_4, hb17, trivial⟩) (fun _ => (x_assignSl rfl)) ?_
            refine RT.done (by kernel_rfl) ?_
            refine Run.ret2 (v := .slice (some ⟨b_423, 0, none⟩) (([(⟨7, (passT T t).self, (m).n, (m).req, ⟨#[]⟩, ⟨none, 0, 0⟩, ⟨none, 0, 0⟩, ⟨none, 0, 0⟩, (m).owner, 0, -1, 0, 0, 0, ⟨none, 0, 0⟩, ⟨none, 0, 0⟩, ⟨none, 0, 0⟩⟩ : MsgC)] : List MsgC).length) (([(⟨7, (passT T t).self, (m).n, (m).req, ⟨#[]⟩, ⟨none, 0, 0⟩, ⟨none, 0, 0⟩, ⟨none, 0, 0⟩, (m).owner, 0, -1, 0, 0, 0, ⟨none, 0, 0⟩, ⟨none, 0, 0⟩, ⟨none, 0, 0⟩⟩ : MsgC)] : List MsgC).length)) (x := .slice (none) (0) (0)) Try.func35 rfl rfl rfl ?_
            have ho_434 := OwnSl.nil (α := Peer) w_424 23
            have e := on_pong (T := T) (t := t) hno hc56
            rw [meet_old hk hks] at e
            dsimp only at e
            have e' : pongedT (passT T t) m = (passT T t, ([(⟨7, (passT T t).self, (m).n, (m).req, ⟨#[]⟩, ⟨none, 0, 0⟩, ⟨none, 0, 0⟩, ⟨none, 0, 0⟩, (m).owner, 0, -1, 0, 0, 0, ⟨none, 0, 0⟩, ⟨none, 0, 0⟩, ⟨none, 0, 0⟩⟩ : MsgC)] : List MsgC)) := by rw [pongedT, if_neg (by omega), if_pos (by omega)]; first | done | rfl
            rw [e'] at e
            have hR_435 : RTabAt w_424 b aL_7 cL_8 aP_9 cP_10 (passT T t) := ⟨hb17, hoL17, hoP17, hapL17, hapP17, hapLP17, ok17, nv17⟩
            have pt_436 : ¬ rtabS b aL_7 aP_9 b_1 := (fun h1 => h1.elim (fun e => absurd e (by omega)) (fun h1 => h1.elim (fun h => (fun h1 => pr_15 (.inr (.inl h1))) h) (fun h => (fun h1 => pr_15 (.inr (.inr h1))) h)))
            have pt_437 : ∀ q_, rtabS b aL_7 aP_9 q_ → ¬ own (some ⟨b_423, 0, none⟩) q_ := (fun q_ h1 h2 => h1.elim (fun e => pr_429 (e ▸ h2)) (fun h1 => h1.elim (fun h => (fun q_ h1 h2 => pr_430 q_ h2 h1) q_ h h2) (fun h => (fun q_ h1 h2 => pr_431 q_ h2 h1) q_ h h2)))
            have pt_438 : ∀ q_, rtabS b aL_7 aP_9 q_ → ¬ own none q_ := (fun q_ h1 h2 => h1.elim (fun e => (own_none b) (e ▸ h2)) (fun h1 => h1.elim (fun h => (fun q_ h1 h2 => (fun q_ h1 _ => own_none q_ h1) q_ h2 h1) q_ h h2) (fun h => (fun q_ h1 h2 => (fun q_ h1 _ => own_none q_ h1) q_ h2 h1) q_ h h2)))
            have pt_439 : ∀ q_, rtabS b aL_7 aP_9 q_ → q_ < w.heap.size → (rtabS b aL aP) q_ := (fun q_ h1 hlt => h1.elim (fun e => e ▸ (Or.inl rfl)) (fun h1 => h1.elim (fun h => (fun q_ h1 hlt => pg_16 q_ (.inr (.inl h1)) hlt) q_ h hlt) (fun h => (fun q_ h1 hlt => pg_16 q_ (.inr (.inr h1)) hlt) q_ h hlt)))
            clear hb17 hoL17 hoP17
            have e1 : (on T m t).T = passT T t := by rw [e]
            have e2 : (on T m t).out = ([(⟨7, (passT T t).self, (m).n, (m).req, ⟨#[]⟩, ⟨none, 0, 0⟩, ⟨none, 0, 0⟩, ⟨none, 0, 0⟩, (m).owner, 0, -1, 0, 0, 0, ⟨none, 0, 0⟩, ⟨none, 0, 0⟩, ⟨none, 0, 0⟩⟩ : MsgC)] : List MsgC) := by rw [e]
            have e3 : (on T m t).told = ([] : List Peer) := by rw [e]; try rfl
            rw [e1, e2, e3]
            exact ⟨_, rfl, aL_7, cL_8, aP_9, cP_10, some ⟨b_423, 0, none⟩, ([(⟨7, (passT T t).self, (m).n, (m).req, ⟨#[]⟩, ⟨none, 0, 0⟩, ⟨none, 0, 0⟩, ⟨none, 0, 0⟩, (m).owner, 0, -1, 0, 0, 0, ⟨none, 0, 0⟩, ⟨none, 0, 0⟩, ⟨none, 0, 0⟩⟩ : MsgC)] : List MsgC).length, none, 0, rfl, hR_435, ho_426, ho_434, pw_433, (fun q_ h1 => absurd h1 (own_none q_)), (fun q_ h1 h2 => pt_437 q_ h2 h1), (fun q_ h1 h2 => pt_438 q_ h2 h1), (fun q_ h1 h2 => (fun q_ h1 _ => own_none q_ h1) q_ h2 h1), rtabMoved' (fun x hx hlt => pt_439 x (.inr (.inl hx)) hlt) (fun x hx hlt => pt_439 x (.inr (.inr hx)) hlt), K0⟩
          · try simp only [br] at hc166
            refine Run.skip ?_
            refine Run.seq ?_
            refine Run.region ?_
            refine RL.val (x_moveSl rfl) ?_
            refine RL.val (x_assignSl rfl) ?_
            refine RL.val (x_assignSl rfl) ?_
            refine RL.nil ?_
            refine Run.ret2 (v := .slice (none) (0) (0)) (x := .slice (none) (0) (0)) Try.func35 rfl rfl rfl ?_
            have ho_440 := OwnSl.nil (α := MsgC) w_419 61
            have ho_441 := OwnSl.nil (α := Peer) w_419 23
            have e := on_pong (T := T) (t := t) hno hc56
            rw [meet_old hk hks] at e
            dsimp only at e
            have e' : pongedT (passT T t) m = (passT T t, ([] : List MsgC)) := by rw [pongedT, if_neg (by omega), if_neg (by omega)]; first | done | rfl
            rw [e'] at e
            have hR_442 : RTabAt w_419 b aL_7 cL_8 aP_9 cP_10 (passT T t) := ⟨hb17, hoL17, hoP17, hapL17, hapP17, hapLP17, ok17, nv17⟩
            have pt_443 : ¬ rtabS b aL_7 aP_9 b_1 := (fun h1 => h1.elim (fun e => absurd e (by omega)) (fun h1 => h1.elim (fun h => (fun h1 => pr_15 (.inr (.inl h1))) h) (fun h => (fun h1 => pr_15 (.inr (.inr h1))) h)))
            have pt_444 : ∀ q_, rtabS b aL_7 aP_9 q_ → ¬ own none q_ := (fun q_ h1 h2 => h1.elim (fun e => (own_none b) (e ▸ h2)) (fun h1 => h1.elim (fun h => (fun q_ h1 h2 => (fun q_ h1 _ => own_none q_ h1) q_ h2 h1) q_ h h2) (fun h => (fun q_ h1 h2 => (fun q_ h1 _ => own_none q_ h1) q_ h2 h1) q_ h h2)))
            have pt_445 : ∀ q_, rtabS b aL_7 aP_9 q_ → ¬ own none q_ := (fun q_ h1 h2 => h1.elim (fun e => (own_none b) (e ▸ h2)) (fun h1 => h1.elim (fun h => (fun q_ h1 h2 => (fun q_ h1 _ => own_none q_ h1) q_ h2 h1) q_ h h2) (fun h => (fun q_ h1 h2 => (fun q_ h1 _ => own_none q_ h1) q_ h2 h1) q_ h h2)))
            have pt_446 : ∀ q_, rtabS b aL_7 aP_9 q_ → q_ < w.heap.size → (rtabS b aL aP) q_ := (fun q_ h1 hlt => h1.elim (fun e => e ▸ (Or.inl rfl)) (fun h1 => h1.elim (fun h => (fun q_ h1 hlt => pg_16 q_ (.inr (.inl h1)) hlt) q_ h hlt) (fun h => (fun q_ h1 hlt => pg_16 q_ (.inr (.inr h1)) hlt) q_ h hlt)))
            clear hb17 hoL17 hoP17
            have e1 : (on T m t).T = passT T t := by rw [e]
            have e2 : (on T m t).out = ([] : List MsgC) := by rw [e]
            have e3 : (on T m t).told = ([] : List Peer) := by rw [e]; try rfl
            rw [e1, e2, e3]
            exact ⟨_, rfl, aL_7, cL_8, aP_9, cP_10, none, 0, none, 0, rfl, hR_442, ho_440, ho_441, (fun q_ h1 => absurd h1 (own_none q_)), (fun q_ h1 => absurd h1 (own_none q_)), (fun q_ h1 h2 => pt_444 q_ h2 h1), (fun q_ h1 h2 => pt_445 q_ h2 h1), (fun q_ h1 _ => own_none q_ h1), rtabMoved' (fun x hx hlt => pt_446 x (.inr (.inl hx)) hlt) (fun x hx hlt => pt_446 x (.inr (.inr hx)) hlt), K0⟩

end Go.Proofs.Ytagfdmdajmkddaa
