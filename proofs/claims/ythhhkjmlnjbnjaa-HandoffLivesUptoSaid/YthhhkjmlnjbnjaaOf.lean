/-
  Layer 18: what is told of a sender as a whole; awake.
-/
import Derived.Test.YthhhkjmlnjbnjaaRows
import Derived.Test.YthhhkjmlnjbnjaaOe
namespace Go.Proofs.Ythhhkjmlnjbnjaa
attribute [local irreducible] St1 RL RA RT RT1 Run

theorem ret_mono {P : Program} {f : FuncId} {args : Array Value} {w : World} {Φ Ψ : Value → World → Prop} (h : Calls P f args w (Ret Φ)) (hh : ∀ v w', Φ v w' → Ψ v w') : Calls P f args w (Ret Ψ) :=
  h.mono fun _ _ ⟨v, e, hv⟩ => ⟨v, e, hh v _ hv⟩
/-- a call that writes a sender: its error, what the sender has behind it -/
def SStep (s : Nat) (F : Nat → Prop) (w : World) (E me now req : Int) (L : List (PTr Item)) : Value → World → Prop := fun v w' => ∃ F', v = .int .i64 E ∧ SndAt w' s F' me now req L ∧ MovedS w F F' ∧ Keeps F w w'
/-- a call that tells messages -/
def MStep (s : Nat) (F : Nat → Prop) (w : World) (T : List HMsg) (me now req : Int) (L : List (PTr Item)) : Value → World → Prop := fun v w' => ∃ a' c' F', v = .slice a' T.length c' ∧ OwnSl w' 46 a' c' T ∧ (∀ q, own a' q → w.heap.size ≤ q) ∧ SndAt w' s F' me now req L ∧ MovedS w F F' ∧ (∀ q, own a' q → ¬ F' q) ∧ Keeps F w w'
theorem movedS_of {w : World} {F F' : Nat → Prop} (h : ∀ q, F' q → q < w.heap.size → F q) : MovedS w F F' := fun q hq => by
  by_cases hl : q < w.heap.size
  · exact .inl (h q hq hl)
  · exact .inr (by omega)
section
variable {w : World} {s : Nat} {F : Nat → Prop} {self now req : Int} {pl : List (PTr Item)}
theorem beginD (h : SndAt w s F self now req pl) (part to : Int) (ak : Option Addr) (keys : List ByteArray) (ck : Nat) (hL : pl.length ≤ 1000) (hka : SlOf w ak keys) (hdk : ∀ x, ak = some x → ¬ F x.block) (hkyl : keys.length ≤ 1048576) (hks : ∀ k ∈ keys, k.size ≤ 4294967295) :
    Calls Try.prog 11 #[.pointer (some ⟨s, 0, none⟩), .int .i64 part, .int .i64 to, .slice ak keys.length ck] w (Ret (SStep s F w (begE self pl part to keys) self now req (begL self pl part to keys (newI (uniq (sortN keys)))))) := by
  obtain ⟨al, cl, ts, rfl, rfl, hD⟩ := h
  refine ret_mono (begin_ s al cl self now req ts part to ak keys ck w hD (by rwa [List.length_map] at hL) hka hdk hkyl hks) fun v w' h => ?_
  obtain ⟨al', cl', ts', rfl, h1, h2, h3, h4⟩ := h
  exact ⟨_, rfl, ⟨al', cl', ts', rfl, h2.symm, h1⟩, movedS_of h3, h4⟩
theorem cancelD (h : SndAt w s F self now req pl) (part to : Int) (hL : pl.length ≤ 1000) :
    Calls Try.prog 19 #[.pointer (some ⟨s, 0, none⟩), .int .i64 part, .int .i64 to] w (Ret (SStep s F w (canE self pl part to) self now req (canL self pl part to))) := by
  obtain ⟨al, cl, ts, rfl, rfl, hD⟩ := h
  refine ret_mono (cancel_ s al cl self now req ts part to w hD (by rwa [List.length_map] at hL)) fun v w' h => ?_
  obtain ⟨al', cl', ts', rfl, h1, h2, h3, h4⟩ := h
  exact ⟨_, rfl, ⟨al', cl', ts', rfl, h2.symm, h1⟩, movedS_of h3, h4⟩
theorem tickD (h : SndAt w s F self now req pl) (t : Int) (hL : pl.length ≤ 1000) (ht : t ≤ 9223372036854775807) (hr : 0 ≤ req ∧ req ≤ 1000000) :
    Calls Try.prog 14 #[.pointer (some ⟨s, 0, none⟩), .int .i64 t] w (Ret (MStep s F w (tickP self (max now t) req pl).T self (max now t) (tickP self (max now t) req pl).r (tickP self (max now t) req pl).L)) := by
  obtain ⟨al, cl, ts, rfl, rfl, hD⟩ := h
  refine ret_mono (tick_ s al cl self now req ts t w hD (by rwa [List.length_map] at hL) ht hr) fun v w' h => ?_
  obtain ⟨a', c', ts', rfl, h1, h2, h3, h4, h5, h6⟩ := h
  exact ⟨a', c', _, rfl, h1, h2, ⟨al, cl, ts', rfl, h4.symm, h3⟩, movedS_of (fun q h _ => h5 q h), fun q hq hf => absurd (hD.own_lt q (h5 q hf)) (by have := h2 q hq; omega), h6⟩
theorem leftD (h : SndAt w s F self now req pl) (part to : Int) (hL : pl.length ≤ 1000) : Calls Try.prog 17 #[.pointer (some ⟨s, 0, none⟩), .int .i64 part, .int .i64 to] w (Ret fun v w' => v = .int .i64 ((leftN pl part to : Nat) : Int) ∧ Ext w w') := by
  obtain ⟨al, cl, ts, rfl, rfl, hD⟩ := h
  exact left_ s al cl self now req ts part to w hD (by rwa [List.length_map] at hL)
theorem doneD (h : SndAt w s F self now req pl) (part to : Int) (hL : pl.length ≤ 1000) : Calls Try.prog 18 #[.pointer (some ⟨s, 0, none⟩), .int .i64 part, .int .i64 to] w (Ret fun v w' => v = .bool (doneB pl part to) ∧ Ext w w') := by
  obtain ⟨al, cl, ts, rfl, rfl, hD⟩ := h
  exact done_ s al cl self now req ts part to w hD (by rwa [List.length_map] at hL)
theorem openD (h : SndAt w s F self now req pl) (hL : pl.length ≤ 1000) : Calls Try.prog 21 #[.pointer (some ⟨s, 0, none⟩)] w (Ret fun v w' => ∃ a' c', v = .slice a' (openL self pl).length c' ∧ OwnSl w' 82 a' c' (openL self pl) ∧ (∀ q, own a' q → w.heap.size ≤ q) ∧ Ext w w') := by
  obtain ⟨al, cl, ts, rfl, rfl, hD⟩ := h
  exact open_ s al cl self now req ts w hD (by rwa [List.length_map] at hL)
end
theorem newD (self : Int) (w : World) : Calls Try.prog 10 #[.int .i64 self] w (Ret fun v w' => (¬ (0 ≤ self ∧ self < 8) ∧ v = .tuple #[.pointer none, .int .i64 1] ∧ Ext w w') ∨
    ((0 ≤ self ∧ self < 8) ∧ ∃ s F, v = .tuple #[.pointer (some ⟨s, 0, none⟩), .int .i64 0] ∧ SndAt w' s F self 0 0 [] ∧ (∀ q, F q → w.heap.size ≤ q) ∧ Ext w w')) := by
  refine ret_mono (new_ self w) fun v w' h => ?_
  rcases h with h | ⟨h1, s, h2, h3, h4, h5⟩
  · exact .inl h
  · exact .inr ⟨h1, s, _, h2, ⟨none, 0, [], rfl, rfl, h3⟩, h4, h5⟩
/-! ### a program that hands nothing over is told -/
def awK : ByteArray := ⟨#[97]⟩
theorem sortN_one (x : ByteArray) : sortN [x] = [x] := by simp [sortN, List.mergeSort, data_back]
def awL1 : List (PTr Item) := [⟨3, 1, [⟨⟨#[97]⟩, 0, -1⟩]⟩]
def awL2 : List (PTr Item) := [⟨3, 1, [⟨⟨#[97]⟩, 1, 0⟩]⟩]
theorem aw_begin {w : World} {s : Nat} {F : Nat → Prop} (h : SndAt w s F 0 0 0 []) (ak : Option Addr) (ck : Nat) (hka : SlOf w ak ([⟨#[97]⟩] : List ByteArray)) (hdk : ∀ x, ak = some x → ¬ F x.block) :
    Calls Try.prog 11 #[.pointer (some ⟨s, 0, none⟩), .int .i64 3, .int .i64 1, .slice ak ([⟨#[97]⟩] : List ByteArray).length ck] w (Ret (SStep s F w 0 0 0 0 awL1)) := by
  have := beginD h 3 1 ak [⟨#[97]⟩] ck (by decide) hka hdk (by decide) (by decide)
  rw [sortN_one] at this
  exact this
theorem aw_tick {w : World} {s : Nat} {F : Nat → Prop} (h : SndAt w s F 0 0 0 awL1) : Calls Try.prog 14 #[.pointer (some ⟨s, 0, none⟩), .int .i64 0] w (Ret (MStep s F w [⟨10, 0, 1, 1, ⟨#[97]⟩, 3⟩] 0 0 1 awL2)) := tickD h 0 (by decide) (by decide) (by decide)
theorem aw_left {w : World} {s : Nat} {F : Nat → Prop} {r : Int} (h : SndAt w s F 0 0 r awL2) : Calls Try.prog 17 #[.pointer (some ⟨s, 0, none⟩), .int .i64 3, .int .i64 1] w (Ret fun v w' => v = .int .i64 1 ∧ Ext w w') := leftD h 3 1 (by decide)

theorem en10 : Enters Try.prog 10 := enters_of Try.func10 rfl (by kernel_rfl)
theorem en11 : Enters Try.prog 11 := enters_of Try.func11 rfl (by kernel_rfl)
theorem en14 : Enters Try.prog 14 := enters_of Try.func14 rfl (by kernel_rfl)
theorem en17 : Enters Try.prog 17 := enters_of Try.func17 rfl (by kernel_rfl)

set_option maxRecDepth 100000 in
set_option maxHeartbeats 4000000 in
theorem awake_ (w : World) :
    Calls Try.prog 13 #[] w (Ret (fun v w' => v = .bool true ∧ Ext w w')) := by
  refine calls_run (n := 44) Try.func13 rfl rfl rfl ?_
  refine Run.seq ?_
  refine Run.region ?_
  refine RL.val (x_assignB rfl) ?_
  refine RL.nil ?_
  refine Run.seq ?_
  refine Run.region ?_
  refine RL.st rfl <| St1.call (vals := [.int .i64 (0)]) en10 rfl (newD 0 _) ?_
  rintro _ w_3 (⟨hnr, rfl, K_6⟩ | ⟨hrm, s_1, F_2, rfl, hS_4, hg_5, K_6⟩)
  · exact absurd (by decide) hnr
  · have pg_7 : ∀ q_, F_2 q_ → w.heap.size ≤ q_ := fun q_ h => Nat.le_trans (Nat.le_refl _) (hg_5 q_ h)
    clear hg_5
    have K0 := (K_6 : Ext w _)
    refine RL.val (x_moveT rfl) ?_
    refine RL.val (x_extract rfl rfl) ?_
    refine RL.val (x_extract rfl rfl) ?_
    refine RL.val (x_assignP rfl) ?_
    refine RL.val (x_assignI rfl) ?_
    refine RL.nil ?_
    refine Run.seq ?_
    refine Run.seq ?_
    refine Run.region ?_
    refine RL.val (x_moveI rfl) ?_
    refine RL.val (litF (x_neI rfl rfl) (by decide)) ?_
    refine RL.val (x_moveB rfl) ?_
    refine RL.gst (wantedF1 rfl rfl rfl rfl) <| St1.val (x_moveP rfl) ?_
    refine RL.gst (wantedF1 rfl rfl rfl rfl) <| St1.val (litF (x_ptrNil Try.underlying24 rfl rfl) rfl) ?_
    refine RL.val (x_orF rfl rfl rfl) ?_
    refine RL.val (x_moveB rfl) ?_
    refine RL.gst (wantedF1 rfl rfl rfl rfl) <| St1.val (x_moveP rfl) ?_
    refine RL.gst (wantedF1 rfl rfl rfl rfl) <| St1.buildSlice ([⟨#[97]⟩] : List ByteArray) Try.underlying22 ty9 rfl rfl (by first | decide | (simp [Enc.size])) ?_
    intro b_8 w_9 hl_12 ho_11 K_10
    have pr_13 : ∀ q_, own (some ⟨b_8, 0, none⟩) q_ → ¬ F_2 q_ := apartNew (ge_new hl_12) hS_4.own_lt
    have pg_14 : ∀ q_, own (some ⟨b_8, 0, none⟩) q_ → w.heap.size ≤ q_ := fun q_ h => Nat.le_trans K0.size ((ge_new hl_12) q_ h)
    clear hl_12
    replace hS_4 := hS_4.ext K_10
    replace K0 := K0.ext K_10
    refine RL.gst (wantedF1 rfl rfl rfl rfl) <| St1.call (vals := [.pointer (some ⟨s_1, 0, none⟩), .int .i64 (3), .int .i64 (1), .slice (some ⟨b_8, 0, none⟩) (([⟨#[97]⟩] : List ByteArray).length) (([⟨#[97]⟩] : List ByteArray).length)]) en11 rfl (aw_begin hS_4 _ _ ho_11.sl (fun x_ hx_ => pr_13 _ ⟨x_, hx_, rfl⟩)) ?_
    rintro _ w_16 ⟨F_15, rfl, hS_17, hm_18, K_19⟩
    have pr_20 : ∀ q_, F_15 q_ → ¬ own (some ⟨b_8, 0, none⟩) q_ := hm_18.apart (fun q_ h1 h2 => pr_13 q_ h2 h1) ho_11.own_lt
    have pg_21 : ∀ q_, F_15 q_ → w.heap.size ≤ q_ := hm_18.ge pg_7 K0.size
    replace ho_11 := ho_11.keepO K_19 pr_13
    replace K0 := K0.new K_19 pg_7
    clear hm_18
    refine RL.gst (wantedF1 rfl rfl rfl rfl) <| St1.val (litF (x_neI rfl rfl) (by decide)) ?_
    refine RL.val (x_orF rfl rfl rfl) ?_
    refine RL.nil ?_
    refine Run.condF rfl ?_
    refine Run.skip ?_
    refine Run.seq ?_
    refine Run.region ?_
    refine RL.val (x_moveP rfl) ?_
    refine RL.st rfl <| St1.call (vals := [.pointer (some ⟨s_1, 0, none⟩), .int .i64 (0)]) en14 rfl (aw_tick hS_17) ?_
    rintro _ w_25 ⟨a_22, c_23, F_24, rfl, ho_26, hg_27, hS_28, hm_29, hap_30, K_31⟩
    have pr_32 : ∀ q_, own a_22 q_ → ¬ own (some ⟨b_8, 0, none⟩) q_ := apartNew hg_27 ho_11.own_lt
    have pr_33 : ∀ q_, own a_22 q_ → ¬ F_15 q_ := apartNew hg_27 hS_17.own_lt
    have pg_34 : ∀ q_, own a_22 q_ → w.heap.size ≤ q_ := fun q_ h => Nat.le_trans K0.size (hg_27 q_ h)
    clear hg_27
    have pr_35 : ∀ q_, F_24 q_ → ¬ own (some ⟨b_8, 0, none⟩) q_ := hm_29.apart pr_20 ho_11.own_lt
    have pg_36 : ∀ q_, F_24 q_ → w.heap.size ≤ q_ := hm_29.ge pg_21 K0.size
    replace ho_11 := ho_11.keepO K_31 (fun q_ h1 h2 => pr_20 q_ h2 h1)
    replace K0 := K0.new K_31 pg_21
    clear hm_29
    refine RL.val (x_assignSl rfl) ?_
    refine RL.nil ?_
    refine Run.seq ?_
    refine Run.region ?_
    refine RL.val (x_moveSl rfl) ?_
    refine RL.val (litI (c := 1) (x_lenSl Try.underlying31 rfl) rfl) ?_
    refine RL.val (litT (x_eqI rfl rfl) (by decide)) ?_
    refine RL.val (x_moveB rfl) ?_
    refine RL.gst (wantedT1 rfl rfl rfl rfl) <| St1.val (x_moveSl rfl) ?_
    obtain ⟨b_37, o_38, x_41, hx_42, ha_39, hc_40⟩ := ho_26.sl.el (i := 0) (by simp)
    obtain rfl : (⟨10, 0, 1, 1, ⟨#[97]⟩, 3⟩ : HMsg) = x_41 := Option.some.inj hx_42
    refine RL.gst (wantedT1 rfl rfl rfl rfl) <| St1.val (x_idxN Try.underlying31 ty46 rfl rfl ha_39 (by simp)) ?_
    refine RL.gst (wantedT1 rfl rfl rfl rfl) <| St1.val (x_fld (o' := o_38 + 0 * 17 + 0) Try.underlying46 rfl ty3 rfl rfl rfl) ?_
    refine RL.gst (wantedT1 rfl rfl rfl rfl) <| St1.val (x_ld ty3 rfl rfl (hc_40.field (i := 0) rfl)) ?_
    refine RL.gst (wantedT1 rfl rfl rfl rfl) <| St1.val (x_eqI rfl rfl) ?_
    refine RL.val (x_andT rfl rfl rfl) ?_
    refine RL.val (x_moveB rfl) ?_
    refine RL.gval (wantedT rfl rfl rfl rfl) (fun hg => (x_moveSl rfl)) ?_
    obtain ⟨b_43, o_44, x_47, hx_48, ha_45, hc_46⟩ := ho_26.sl.el (i := 0) (by simp)
    obtain rfl : (⟨10, 0, 1, 1, ⟨#[97]⟩, 3⟩ : HMsg) = x_47 := Option.some.inj (hx_42.symm.trans hx_48)
    refine RL.gval (wantedT rfl rfl rfl rfl) (fun hg => (x_idxN Try.underlying31 ty46 (gvr hg) rfl ha_45 (by simp))) ?_
    refine RL.gval (wantedT rfl rfl rfl rfl) (fun hg => (x_fld (o' := o_44 + 0 * 17 + 4) Try.underlying46 rfl ty9 rfl (gvr hg) rfl)) ?_
    refine RL.gval (wantedT rfl rfl rfl rfl) (fun hg => (x_ld ty9 (gvr hg) rfl (hc_46.field (i := 4) rfl))) ?_
    refine RL.gval (wantedT rfl rfl rfl rfl) (fun hg => (x_eqS (gvr hg) rfl)) ?_
    refine RL.val (x_and rfl rfl rfl) ?_
    refine RL.val (x_moveB rfl) ?_
    refine RL.gval (wantedT rfl rfl rfl rfl) (fun hg => (x_moveP rfl)) ?_
    refine RL.gcall (vals := [.pointer (some ⟨s_1, 0, none⟩), .int .i64 (3), .int .i64 (1)]) (wantedT rfl rfl rfl rfl) en17 (fun hg => (mcons (gvr hg) (mcons rfl (mcons rfl mnil)))) (fun hg => (aw_left hS_28)) ?_
    intro w_49 K_50
    replace ho_11 := ho_11.ext K_50
    replace hS_28 := hS_28.ext K_50
    replace ho_26 := ho_26.ext K_50
    replace hc_40 := hc_40.ext K_50
    replace hc_46 := hc_46.ext K_50
    replace K0 := K0.ext K_50
    refine RL.gval (wantedT rfl rfl rfl rfl) (fun hg => (litT (x_eqI (gvr hg) rfl) (by decide))) ?_
    refine RL.val (x_and rfl rfl rfl) ?_
    refine RL.val (x_assignB rfl) ?_
    refine RL.nil ?_
    refine Run.ret1 (v := .bool ((((((⟨10, 0, 1, 1, ⟨#[97]⟩, 3⟩ : HMsg)).kind) == 10) && (decide (((⟨10, 0, 1, 1, ⟨#[97]⟩, 3⟩ : HMsg)).key = ⟨#[97]⟩))) && true)) Try.func13 rfl rfl ?_
    exact ⟨_, rfl, rfl, K0⟩

end Go.Proofs.Ythhhkjmlnjbnjaa
