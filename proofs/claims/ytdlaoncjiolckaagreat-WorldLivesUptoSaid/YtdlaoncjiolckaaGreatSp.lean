/-
  Layer 22: Spoil, SpoilMsgs.
-/
import Derived.Test.YtdlaoncjiolckaaGreatRows
import Derived.Test.YtdlaoncjiolckaaGreatRd
namespace Go.Proofs.YtdlaoncjiolckaaGreat
attribute [local irreducible] St1 RL RA RT RT1 Run

def cartS (s : Six) : Nat → Prop := fun q => own s.ea q ∨ (own s.ma q ∨ own s.ca q)
def spS (a : Option Addr) (ks : List Pk) : Nat → Prop := fun q => own a q ∨ mgsS ks q
section
variable {w w' : World} {s : Six} {v : MV} {p : Pk} {ks : List Pk} {i : Nat} {a : Option Addr}
theorem cart_case : ∀ q, cartS s q → own s.ea q ∨ (own s.ma q ∨ own s.ca q) := fun _ h => h
theorem SixA.pairs (h : SixA s) : (∀ q, own s.ea q → ¬ own s.ma q) ∧ (∀ q, own s.ea q → ¬ own s.ca q) ∧ (∀ q, own s.ea q → ¬ own s.ba q) ∧ (∀ q, own s.ea q → ¬ own s.pa q) ∧ (∀ q, own s.ea q → ¬ own s.sa q) ∧ (∀ q, own s.ma q → ¬ own s.ca q) ∧ (∀ q, own s.ma q → ¬ own s.ba q) ∧ (∀ q, own s.ma q → ¬ own s.pa q) ∧ (∀ q, own s.ma q → ¬ own s.sa q) ∧ (∀ q, own s.ca q → ¬ own s.ba q) ∧ (∀ q, own s.ca q → ¬ own s.pa q) ∧ (∀ q, own s.ca q → ¬ own s.sa q) ∧ (∀ q, own s.ba q → ¬ own s.pa q) ∧ (∀ q, own s.ba q → ¬ own s.sa q) ∧ (∀ q, own s.pa q → ¬ own s.sa q) :=
  ⟨List.pairwise_iff_getElem.1 h 0 1 (by simp) (by simp) (by decide), List.pairwise_iff_getElem.1 h 0 2 (by simp) (by simp) (by decide), List.pairwise_iff_getElem.1 h 0 3 (by simp) (by simp) (by decide), List.pairwise_iff_getElem.1 h 0 4 (by simp) (by simp) (by decide), List.pairwise_iff_getElem.1 h 0 5 (by simp) (by simp) (by decide), List.pairwise_iff_getElem.1 h 1 2 (by simp) (by simp) (by decide), List.pairwise_iff_getElem.1 h 1 3 (by simp) (by simp) (by decide), List.pairwise_iff_getElem.1 h 1 4 (by simp) (by simp) (by decide), List.pairwise_iff_getElem.1 h 1 5 (by simp) (by simp) (by decide), List.pairwise_iff_getElem.1 h 2 3 (by simp) (by simp) (by decide), List.pairwise_iff_getElem.1 h 2 4 (by simp) (by simp) (by decide), List.pairwise_iff_getElem.1 h 2 5 (by simp) (by simp) (by decide), List.pairwise_iff_getElem.1 h 3 4 (by simp) (by simp) (by decide), List.pairwise_iff_getElem.1 h 3 5 (by simp) (by simp) (by decide), List.pairwise_iff_getElem.1 h 4 5 (by simp) (by simp) (by decide)⟩
theorem MgsAt.one {j : Int} (hO : SixO w s v) (hA : SixA s) (hv : VOk v) : MgsAt w [(⟨j, v, s⟩ : Pk)] := ⟨fun f hf => by simp only [List.mem_singleton] at hf; subst hf; exact ⟨hO, hA, hv⟩, List.pairwise_singleton _ _⟩
theorem mgs_one {j : Int} : ∀ q, mgsS [(⟨j, v, s⟩ : Pk)] q → ownS s q := fun q ⟨f, hf, hq⟩ => by simp only [List.mem_singleton] at hf; subst hf; exact hq
theorem drop_at (hp : ks[i]? = some p) : ks.drop i = [] ++ p :: ks.drop (i + 1) := by
  obtain ⟨hi, rfl⟩ := List.getElem?_eq_some_iff.1 hp
  rw [List.nil_append, List.getElem_cons_drop]
end

theorem en39 : Enters Tryz.prog 39 := enters_of Tryz.func39 rfl (by kernel_rfl)

set_option maxRecDepth 100000 in
set_option maxHeartbeats 4000000 in
theorem spoil_ (v : MV) (s : Six) (w : World) (h6e : OwnSl w 118 s.ea s.ec v.ent) (h6m : OwnSl w 120 s.ma s.mc v.mrk) (h6c : OwnSl w 116 s.ca s.cc v.cl) (hem : ∀ q, own s.ea q → ¬ own s.ma q) (hec : ∀ q, own s.ea q → ¬ own s.ca q) (hmc : ∀ q, own s.ma q → ¬ own s.ca q) (hv : VOk v) :
    Calls Tryz.prog 39 #[.agg #[.slice (s.ea) (v.ent.length) (s.ec), .slice (s.ma) (v.mrk.length) (s.mc), .slice (s.ca) (v.cl.length) (s.cc)]] w (Ret (fun r w' => r = .tuple #[] ∧ Keeps (cartS s) w w')) := by
  obtain ⟨hv1, hv2, hv3, hv4, hv5, hv6⟩ := hv
  refine calls_run (n := 45) Tryz.func39 rfl rfl rfl ?_
  refine Run.seq ?_
  refine Run.region ?_
  refine RL.st rfl <| St1.box (v := .agg #[.slice (s.ea) (v.ent.length) (s.ec), .slice (s.ma) (v.mrk.length) (s.mc), .slice (s.ca) (v.cl.length) (s.cc)]) rfl ?_
  intro b_1 w_2 hl_5 hb_4 K_3
  replace hb_4 : Blk w_2 b_1 [.slice (s.ea) (v.ent.length) (s.ec), .slice (s.ma) (v.mrk.length) (s.mc), .slice (s.ca) (v.cl.length) (s.cc)] 50 := hb_4
  have pr_6 : ¬ own s.ea b_1 := fun h => absurd (h6e.own_lt _ h) (by omega)
  have pr_7 : ¬ own s.ma b_1 := fun h => absurd (h6m.own_lt _ h) (by omega)
  have pr_8 : ¬ own s.ca b_1 := fun h => absurd (h6c.own_lt _ h) (by omega)
  have : w.heap.size ≤ b_1 := hl_5
  clear hl_5
  replace h6e := h6e.ext K_3
  replace h6m := h6m.ext K_3
  replace h6c := h6c.ext K_3
  have K0 := (K_3 : Ext w _).to (S := (cartS s))
  refine RL.nil ?_
  refine Run.seq ?_
  refine Run.seq ?_
  refine Run.region ?_
  refine RL.val (x_fld (o' := 0) Tryz.underlying50 rfl ty44 rfl rfl rfl) ?_
  refine RL.val (x_ld (v := .slice (s.ea) (v.ent.length) (s.ec)) ty44 rfl rfl (hb_4.cl.field (i := 0) rfl)) ?_
  refine RL.val (x_lenSl Tryz.underlying44 rfl) ?_
  refine RL.val (x_moveI rfl) ?_
  refine RL.nil ?_
  refine Run.block ?_
  refine Run.loop (ι := Nat) (fun k ρ' w' => ∃ ue : List EntryC, Holds ρ' [(1, .pointer (some ⟨b_1, 0, none⟩)), (7, .int .i64 (((v.ent.length : Nat) : Int))), (8, .int .i64 (((k : Nat) : Int)))] ∧ Keeps (cartS s) w w' ∧ (Blk w' b_1 [.slice (s.ea) ((ue).length) (s.ec), .slice (s.ma) (v.mrk.length) (s.mc), .slice (s.ca) (v.cl.length) (s.cc)] 50) ∧ (OwnSl w' 120 (s.ma) (s.mc) (v.mrk)) ∧ (OwnSl w' 116 (s.ca) (s.cc) (v.cl)) ∧ (OwnSl w' 118 s.ea s.ec (ue)) ∧ (¬ own s.ea b_1) ∧ (∀ q_, own s.ea q_ → ¬ own s.ma q_) ∧ (∀ q_, own s.ea q_ → ¬ own s.ca q_) ∧ (∀ q_, own s.ea q_ → q_ < w.heap.size → (cartS s) q_) ∧ (k ≤ v.ent.length) ∧ (ue.length = v.ent.length)) (fun k => v.ent.length - k) 0 ?_ ?_
  · refine ⟨v.ent, ⟨rfl, rfl, rfl, trivial⟩, K0, hb_4, h6m, h6c, h6e, pr_6, hem, hec, (fun q_ h_ _ => Or.inl h_), ?_, ?_⟩
    · omega
    · rfl
  clear h6e h6m h6c hb_4
  clear K0
  rintro k ρ_16 w_9 ⟨ue, hH_10, K0, hb_4, h6m, h6c, ho_11, pr_12, pr_13, pr_14, pr_15, hk, hule⟩ ih1
  obtain ⟨ρ₀, rfl⟩ := hH_10.ex
  clear hH_10
  refine Run.seq ?_
  refine Run.region ?_
  refine RL.val (x_ltI rfl rfl) ?_
  refine RL.nil ?_
  refine Run.seq ?_
  refine Run.cond rfl (fun hc9 => ?_) (fun hc9 => ?_)
  · try simp only [br] at hc9
    refine Run.skip ?_
    refine Run.seq ?_
    refine Run.block ?_
    refine Run.seq ?_
    refine Run.region ?_
    refine RL.val (x_moveI rfl) ?_
    refine RL.val (x_assignI rfl) ?_
    refine RL.nil ?_
    refine Run.region ?_
    refine RL.val (x_fld (o' := 0) Tryz.underlying50 rfl ty44 rfl rfl rfl) ?_
    refine RL.val (x_ld (v := .slice (s.ea) ((ue).length) (s.ec)) ty44 rfl rfl (hb_4.cl.field (i := 0) rfl)) ?_
    refine RL.val (x_moveI rfl) ?_
    refine RL.val (x_build (cells := #[.string (⟨#[33]⟩), .int .i64 (0), .int .i64 (0), .int .i64 (0), .int .i64 (0), .int .u64 (0)]) (by kernel_rfl)) ?_
    obtain ⟨b_17, o_18, x_21, hx_22, ha_19, hc_20⟩ := ho_11.sl.el (i := k) (by first | omega | (simp only [List.length_set]; omega))
    refine RL.val (x_idxN Tryz.underlying44 ty118 rfl rfl ha_19 (by first | omega | (simp only [List.length_set]; omega))) ?_
    refine RL.st rfl <| St1.storeEl (v := .agg #[.string (⟨#[33]⟩), .int .i64 (0), .int .i64 (0), .int .i64 (0), .int .i64 (0), .int .u64 (0)]) (off := 0) (i := k) (⟨⟨#[33]⟩, (⟨0, 0, 0⟩ : DotC), 0, 0⟩ : EntryC) ty118 rfl rfl rfl (by simp [Value.cells, Value.oneCell']) ho_11 ha_19 hx_22 rfl (by decide) rfl ?_
    intro w_23 ho_25 K_24
    clear hc_20
    replace hb_4 := hb_4.keep K_24 pr_12
    replace h6m := h6m.keepO K_24 (fun q_ h1 h2 => pr_13 q_ h2 h1)
    replace h6c := h6c.keepO K_24 (fun q_ h1 h2 => pr_14 q_ h2 h1)
    replace K0 := K0.trans K_24 (fun x hlt hx => pr_15 x hx hlt)
    replace ho_11 := ho_25
    clear ho_25
    rw [show (ue).length = (ue.set k (⟨⟨#[33]⟩, (⟨0, 0, 0⟩ : DotC), 0, 0⟩ : EntryC)).length from (List.length_set ..).symm] at hb_4
    refine RL.nil ?_
    refine Run.inBlock ?_
    refine Run.region ?_
    refine RL.val (litI (c := ((k + 1 : Nat) : Int)) (x_add rfl rfl (by omega) (by omega)) rfl) ?_
    refine RL.val (x_moveI rfl) ?_
    refine RL.nil ?_
    refine ih1 (k + 1) _ _ ?_ (by omega)
    refine ⟨_, ⟨rfl, rfl, rfl, trivial⟩, K0, hb_4, h6m, h6c, ho_11, pr_12, pr_13, pr_14, pr_15, ?_, ?_⟩
    · omega
    · rw [List.length_set]; exact hule
  · try simp only [br] at hc9
    refine Run.exit rfl ?_
    refine Run.seq ?_
    refine Run.seq ?_
    refine Run.region ?_
    refine RL.val (x_fld (o' := 1) Tryz.underlying50 rfl ty48 rfl rfl rfl) ?_
    refine RL.val (x_fld (o' := 1) Tryz.underlying48 rfl ty45 rfl rfl rfl) ?_
    refine RL.val (x_ld (v := .slice (s.ma) (v.mrk.length) (s.mc)) ty45 rfl rfl (hb_4.cl.field (i := 1) rfl)) ?_
    refine RL.val (x_lenSl Tryz.underlying45 rfl) ?_
    refine RL.val (x_moveI rfl) ?_
    refine RL.nil ?_
    refine Run.block ?_
    refine Run.loop (ι := Nat) (fun k ρ' w' => ∃ um : List MarkC, Holds ρ' [(1, .pointer (some ⟨b_1, 0, none⟩)), (20, .int .i64 (((v.mrk.length : Nat) : Int))), (21, .int .i64 (((k : Nat) : Int)))] ∧ Keeps (cartS s) w w' ∧ (Blk w' b_1 [.slice (s.ea) ((ue).length) (s.ec), .slice (s.ma) ((um).length) (s.mc), .slice (s.ca) (v.cl.length) (s.cc)] 50) ∧ (OwnSl w' 116 (s.ca) (s.cc) (v.cl)) ∧ (OwnSl w' 118 (s.ea) (s.ec) (ue)) ∧ (OwnSl w' 120 s.ma s.mc (um)) ∧ (¬ own s.ma b_1) ∧ (∀ q_, own s.ma q_ → ¬ own s.ca q_) ∧ (∀ q_, own s.ma q_ → ¬ own s.ea q_) ∧ (∀ q_, own s.ma q_ → q_ < w.heap.size → (cartS s) q_) ∧ (k ≤ v.mrk.length) ∧ (um.length = v.mrk.length)) (fun k => v.mrk.length - k) 0 ?_ ?_
    · refine ⟨v.mrk, ⟨rfl, rfl, rfl, trivial⟩, K0, hb_4, h6c, ho_11, h6m, pr_7, hmc, (fun q_ h1 h2 => pr_13 q_ h2 h1), (fun q_ h_ _ => Or.inr (Or.inl h_)), ?_, ?_⟩
      · omega
      · rfl
    clear hb_4 h6m h6c ho_11
    clear K0
    rintro k ρ_33 w_26 ⟨um, hH_27, K0, hb_4, h6c, ho_11, ho_28, pr_29, pr_30, pr_31, pr_32, hk, hulm⟩ ih2
    obtain ⟨ρ₀, rfl⟩ := hH_27.ex
    clear hH_27
    refine Run.seq ?_
    refine Run.region ?_
    refine RL.val (x_ltI rfl rfl) ?_
    refine RL.nil ?_
    refine Run.seq ?_
    refine Run.cond rfl (fun hc22 => ?_) (fun hc22 => ?_)
    · try simp only [br] at hc22
      refine Run.skip ?_
      refine Run.seq ?_
      refine Run.block ?_
      refine Run.seq ?_
      refine Run.region ?_
      refine RL.val (x_moveI rfl) ?_
      refine RL.val (x_assignI rfl) ?_
      refine RL.nil ?_
      refine Run.region ?_
      refine RL.val (x_fld (o' := 1) Tryz.underlying50 rfl ty48 rfl rfl rfl) ?_
      refine RL.val (x_fld (o' := 1) Tryz.underlying48 rfl ty45 rfl rfl rfl) ?_
      refine RL.val (x_ld (v := .slice (s.ma) ((um).length) (s.mc)) ty45 rfl rfl (hb_4.cl.field (i := 1) rfl)) ?_
      refine RL.val (x_moveI rfl) ?_
      refine RL.val (x_build (cells := #[.int .i64 (99), .int .i64 (0), .int .i64 (0)]) (by kernel_rfl)) ?_
      obtain ⟨b_34, o_35, x_38, hx_39, ha_36, hc_37⟩ := ho_28.sl.el (i := k) (by first | omega | (simp only [List.length_set]; omega))
      refine RL.val (x_idxN Tryz.underlying45 ty120 rfl rfl ha_36 (by first | omega | (simp only [List.length_set]; omega))) ?_
      refine RL.st rfl <| St1.storeEl (v := .agg #[.int .i64 (99), .int .i64 (0), .int .i64 (0)]) (off := 0) (i := k) (⟨99, 0, 0⟩ : MarkC) ty120 rfl rfl rfl (by simp [Value.cells, Value.oneCell']) ho_28 ha_36 hx_39 rfl (by decide) rfl ?_
      intro w_40 ho_42 K_41
      clear hc_37
      replace hb_4 := hb_4.keep K_41 pr_29
      replace h6c := h6c.keepO K_41 (fun q_ h1 h2 => pr_30 q_ h2 h1)
      replace ho_11 := ho_11.keepO K_41 (fun q_ h1 h2 => pr_31 q_ h2 h1)
      replace K0 := K0.trans K_41 (fun x hlt hx => pr_32 x hx hlt)
      replace ho_28 := ho_42
      clear ho_42
      rw [show (um).length = (um.set k (⟨99, 0, 0⟩ : MarkC)).length from (List.length_set ..).symm] at hb_4
      refine RL.nil ?_
      refine Run.inBlock ?_
      refine Run.region ?_
      refine RL.val (litI (c := ((k + 1 : Nat) : Int)) (x_add rfl rfl (by omega) (by omega)) rfl) ?_
      refine RL.val (x_moveI rfl) ?_
      refine RL.nil ?_
      refine ih2 (k + 1) _ _ ?_ (by omega)
      refine ⟨_, ⟨rfl, rfl, rfl, trivial⟩, K0, hb_4, h6c, ho_11, ho_28, pr_29, pr_30, pr_31, pr_32, ?_, ?_⟩
      · omega
      · rw [List.length_set]; exact hulm
    · try simp only [br] at hc22
      refine Run.exit rfl ?_
      refine Run.seq ?_
      refine Run.region ?_
      refine RL.val (x_fld (o' := 1) Tryz.underlying50 rfl ty48 rfl rfl rfl) ?_
      refine RL.val (x_fld (o' := 2) Tryz.underlying48 rfl ty46 rfl rfl rfl) ?_
      refine RL.val (x_ld (v := .slice (s.ca) (v.cl.length) (s.cc)) ty46 rfl rfl (hb_4.cl.field (i := 2) rfl)) ?_
      refine RL.val (x_lenSl Tryz.underlying46 rfl) ?_
      refine RL.val (x_moveI rfl) ?_
      refine RL.nil ?_
      refine Run.block ?_
      refine Run.loop (ι := Nat) (fun k ρ' w' => ∃ uc : List DotC, Holds ρ' [(1, .pointer (some ⟨b_1, 0, none⟩)), (34, .int .i64 (((v.cl.length : Nat) : Int))), (35, .int .i64 (((k : Nat) : Int)))] ∧ Keeps (cartS s) w w' ∧ (Blk w' b_1 [.slice (s.ea) ((ue).length) (s.ec), .slice (s.ma) ((um).length) (s.mc), .slice (s.ca) ((uc).length) (s.cc)] 50) ∧ (OwnSl w' 118 (s.ea) (s.ec) (ue)) ∧ (OwnSl w' 120 (s.ma) (s.mc) (um)) ∧ (OwnSl w' 116 s.ca s.cc (uc)) ∧ (¬ own s.ca b_1) ∧ (∀ q_, own s.ca q_ → ¬ own s.ea q_) ∧ (∀ q_, own s.ca q_ → ¬ own s.ma q_) ∧ (∀ q_, own s.ca q_ → q_ < w.heap.size → (cartS s) q_) ∧ (k ≤ v.cl.length) ∧ (uc.length = v.cl.length)) (fun k => v.cl.length - k) 0 ?_ ?_
      · refine ⟨v.cl, ⟨rfl, rfl, rfl, trivial⟩, K0, hb_4, ho_11, ho_28, h6c, pr_8, (fun q_ h1 h2 => pr_14 q_ h2 h1), (fun q_ h1 h2 => pr_30 q_ h2 h1), (fun q_ h_ _ => Or.inr (Or.inr h_)), ?_, ?_⟩
        · omega
        · rfl
      clear hb_4 h6c ho_11 ho_28
      clear K0
      rintro k ρ_50 w_43 ⟨uc, hH_44, K0, hb_4, ho_11, ho_28, ho_45, pr_46, pr_47, pr_48, pr_49, hk, hulc⟩ ih3
      obtain ⟨ρ₀, rfl⟩ := hH_44.ex
      clear hH_44
      refine Run.seq ?_
      refine Run.region ?_
      refine RL.val (x_ltI rfl rfl) ?_
      refine RL.nil ?_
      refine Run.seq ?_
      refine Run.cond rfl (fun hc36 => ?_) (fun hc36 => ?_)
      · try simp only [br] at hc36
        refine Run.skip ?_
        refine Run.seq ?_
        refine Run.block ?_
        refine Run.seq ?_
        refine Run.region ?_
        refine RL.val (x_moveI rfl) ?_
        refine RL.val (x_assignI rfl) ?_
        refine RL.nil ?_
        refine Run.region ?_
        refine RL.val (x_fld (o' := 1) Tryz.underlying50 rfl ty48 rfl rfl rfl) ?_
        refine RL.val (x_fld (o' := 2) Tryz.underlying48 rfl ty46 rfl rfl rfl) ?_
        refine RL.val (x_ld (v := .slice (s.ca) ((uc).length) (s.cc)) ty46 rfl rfl (hb_4.cl.field (i := 2) rfl)) ?_
        refine RL.val (x_moveI rfl) ?_
        refine RL.val (x_build (cells := #[.int .i64 (99), .int .i64 (0), .int .i64 (0)]) (by kernel_rfl)) ?_
        obtain ⟨b_51, o_52, x_55, hx_56, ha_53, hc_54⟩ := ho_45.sl.el (i := k) (by first | omega | (simp only [List.length_set]; omega))
        refine RL.val (x_idxN Tryz.underlying46 ty116 rfl rfl ha_53 (by first | omega | (simp only [List.length_set]; omega))) ?_
        refine RL.st rfl <| St1.storeEl (v := .agg #[.int .i64 (99), .int .i64 (0), .int .i64 (0)]) (off := 0) (i := k) (⟨99, 0, 0⟩ : DotC) ty116 rfl rfl rfl (by simp [Value.cells, Value.oneCell']) ho_45 ha_53 hx_56 rfl (by decide) rfl ?_
        intro w_57 ho_59 K_58
        clear hc_54
        replace hb_4 := hb_4.keep K_58 pr_46
        replace ho_11 := ho_11.keepO K_58 (fun q_ h1 h2 => pr_47 q_ h2 h1)
        replace ho_28 := ho_28.keepO K_58 (fun q_ h1 h2 => pr_48 q_ h2 h1)
        replace K0 := K0.trans K_58 (fun x hlt hx => pr_49 x hx hlt)
        replace ho_45 := ho_59
        clear ho_59
        rw [show (uc).length = (uc.set k (⟨99, 0, 0⟩ : DotC)).length from (List.length_set ..).symm] at hb_4
        refine RL.nil ?_
        refine Run.inBlock ?_
        refine Run.region ?_
        refine RL.val (litI (c := ((k + 1 : Nat) : Int)) (x_add rfl rfl (by omega) (by omega)) rfl) ?_
        refine RL.val (x_moveI rfl) ?_
        refine RL.nil ?_
        refine ih3 (k + 1) _ _ ?_ (by omega)
        refine ⟨_, ⟨rfl, rfl, rfl, trivial⟩, K0, hb_4, ho_11, ho_28, ho_45, pr_46, pr_47, pr_48, pr_49, ?_, ?_⟩
        · omega
        · rw [List.length_set]; exact hulc
      · try simp only [br] at hc36
        refine Run.exit rfl ?_
        refine Run.fin0 Tryz.func39 rfl ?_
        exact ⟨_, rfl, rfl, K0⟩

set_option maxRecDepth 100000 in
set_option maxHeartbeats 4000000 in
theorem spoilMsgs_ (a : Option Addr) (ks : List Pk) (c : Nat) (w : World) (ho : OwnSl w 57 a c (ks.map Pk.c)) (hM : MgsAt w ks) (hap : ∀ q, mgsS ks q → ¬ own a q) (hl : ks.length ≤ 1048576) :
    Calls Tryz.prog 12 #[.slice (a) ((ks.map Pk.c).length) (c)] w (Ret (fun r w' => r = .tuple #[] ∧ Keeps (spS a ks) w w')) := by
  have hkc : (ks.map Pk.c).length = ks.length := List.length_map ..
  refine calls_run (n := 78) Tryz.func12 rfl rfl rfl ?_
  refine Run.seq ?_
  refine Run.region ?_
  refine RL.val (x_moveSl rfl) ?_
  refine RL.val (x_lenSl Tryz.underlying31 rfl) ?_
  refine RL.val (x_moveI rfl) ?_
  refine RL.nil ?_
  refine Run.block ?_
  refine Run.loop (ι := Nat) (fun i ρ' w' => ∃ xs : List MsgC, Holds ρ' [(0, .slice (a) ((ks.map Pk.c).length) (c)), (7, .int .i64 ((((ks.map Pk.c).length : Nat) : Int))), (8, .int .i64 (((i : Nat) : Int)))] ∧ Keeps (spS a ks) w w' ∧ (MgsAt w' (ks.drop i)) ∧ (OwnSl w' 57 a c (xs)) ∧ (∀ q_, mgsS (ks.drop i) q_ → ¬ own a q_) ∧ (∀ q_, mgsS (ks.drop i) q_ → q_ < w.heap.size → (spS a ks) q_) ∧ (∀ q_, own a q_ → q_ < w.heap.size → (spS a ks) q_) ∧ (i ≤ ks.length) ∧ (xs.length = (ks.map Pk.c).length) ∧ (∀ j, i ≤ j → xs[j]? = (ks.map Pk.c)[j]?)) (fun i => ks.length - i) 0 ?_ ?_
  · refine ⟨ks.map Pk.c, ⟨rfl, rfl, rfl, trivial⟩, (Keeps.refl _ w), hM, ho, hap, (fun q_ h_ _ => Or.inr h_), (fun q_ h_ _ => Or.inl h_), ?_, ?_, ?_⟩
    · omega
    · rfl
    · exact fun j _ => rfl
  clear ho hM
  rintro i ρ_8 w_1 ⟨xs, hH_2, K0, hO_3, ho_4, pr_5, pr_6, pr_7, hi, hxl, hxs⟩ ih1
  obtain ⟨ρ₀, rfl⟩ := hH_2.ex
  clear hH_2
  refine Run.seq ?_
  refine Run.region ?_
  refine RL.val (x_ltI rfl rfl) ?_
  refine RL.nil ?_
  refine Run.seq ?_
  refine Run.cond rfl (fun hc9 => ?_) (fun hc9 => ?_)
  · try simp only [br] at hc9
    refine Run.skip ?_
    refine Run.seq ?_
    refine Run.block ?_
    refine Run.seq ?_
    obtain ⟨x0, hx0⟩ : ∃ x, (ks.map Pk.c)[i]? = some x := ⟨_, List.getElem?_eq_getElem (by omega)⟩
    obtain ⟨p, hp, hxe_, hpv⟩ := c_get hx0
    subst hxe_
    have hxi : xs[i]? = some (mkC p.v p.s) := (hxs i (Nat.le_refl _)).trans hx0
    have hdr_9 := drop_at hp
    obtain ⟨hpm_10, hM_11, hRp_12⟩ := hO_3.open hdr_9
    replace hM_11 : MgsAt w_1 (ks.drop (i + 1)) := hM_11
    obtain ⟨hO_15, hA_13, hvk_14⟩ := hpm_10
    clear hO_3
    obtain ⟨h6e, h6m, h6c, h6b, h6p, h6s⟩ := hO_15
    obtain ⟨pr_16, pr_17, pr_18, pr_19, pr_20, pr_21, pr_22, pr_23, pr_24, pr_25, pr_26, pr_27, pr_28, pr_29, pr_30⟩ := hA_13.pairs
    have hvk0 := hvk_14
    obtain ⟨hv1, hv2, hv3, hv4, hv5, hv6⟩ := hvk0
    have pr_31 : ∀ q_, own p.s.ea q_ → ¬ own a q_ := fun q_ h_ => pr_5 q_ ((fun q_ h_ => mgs_p hdr_9 q_ (Or.inl h_)) q_ h_)
    have pr_32 : ∀ q_, own p.s.ma q_ → ¬ own a q_ := fun q_ h_ => pr_5 q_ ((fun q_ h_ => mgs_p hdr_9 q_ (Or.inr (Or.inl h_))) q_ h_)
    have pr_33 : ∀ q_, own p.s.ca q_ → ¬ own a q_ := fun q_ h_ => pr_5 q_ ((fun q_ h_ => mgs_p hdr_9 q_ (Or.inr (Or.inr (Or.inl h_)))) q_ h_)
    have pr_34 : ∀ q_, own p.s.ba q_ → ¬ own a q_ := fun q_ h_ => pr_5 q_ ((fun q_ h_ => mgs_p hdr_9 q_ (Or.inr (Or.inr (Or.inr (Or.inl h_))))) q_ h_)
    have pr_35 : ∀ q_, own p.s.pa q_ → ¬ own a q_ := fun q_ h_ => pr_5 q_ ((fun q_ h_ => mgs_p hdr_9 q_ (Or.inr (Or.inr (Or.inr (Or.inr (Or.inl h_)))))) q_ h_)
    have pr_36 : ∀ q_, own p.s.sa q_ → ¬ own a q_ := fun q_ h_ => pr_5 q_ ((fun q_ h_ => mgs_p hdr_9 q_ (Or.inr (Or.inr (Or.inr (Or.inr (Or.inr (h_))))))) q_ h_)
    have pr_37 : ∀ q_, mgsS (ks.drop (i + 1)) q_ → ¬ own a q_ := fun q_ h_ => pr_5 q_ ((mgs_r (l1 := []) hdr_9) q_ h_)
    refine Run.region ?_
    refine RL.val (x_moveI rfl) ?_
    refine RL.val (x_assignI rfl) ?_
    refine RL.nil ?_
    refine Run.seq ?_
    refine Run.region ?_
    refine RL.val (x_moveSl rfl) ?_
    refine RL.val (x_moveI rfl) ?_
    obtain ⟨b_38, o_39, x_42, hx_43, ha_40, hc_41⟩ := ho_4.sl.el (i := i) (by first | omega | (simp only [List.length_set]; omega))
    obtain rfl : (mkC p.v p.s) = x_42 := Option.some.inj (hxi.symm.trans hx_43)
    refine RL.val (x_idxN Tryz.underlying31 ty57 rfl rfl ha_40 (by first | omega | (simp only [List.length_set]; omega))) ?_
    refine RL.val (x_fld (o' := o_39 + i * 17 + 5) Tryz.underlying57 rfl ty50 rfl rfl rfl) ?_
    refine RL.val (x_lds (cs := #[.slice (p.s.ea) (p.v.ent.length) (p.s.ec), .slice (p.s.ma) (p.v.mrk.length) (p.s.mc), .slice (p.s.ca) (p.v.cl.length) (p.s.cc)]) ty50 rfl rfl (hc_41.drop 5 3)) ?_
    refine RL.st rfl <| St1.call (vals := [.agg #[.slice (p.s.ea) (p.v.ent.length) (p.s.ec), .slice (p.s.ma) (p.v.mrk.length) (p.s.mc), .slice (p.s.ca) (p.v.cl.length) (p.s.cc)]]) en39 rfl (spoil_ p.v p.s _ h6e h6m h6c pr_16 pr_17 pr_21 hvk_14) ?_
    rintro _ w_44 ⟨rfl, K_45⟩
    have pr_46 : ∀ q_, cartS p.s q_ → ¬ own a q_ := fun q_ x_ z_ => (cart_case _ x_).elim (fun y_ => pr_31 q_ y_ z_) (fun y_ => y_.elim (fun y_ => pr_32 q_ y_ z_) (fun y_ => (fun y_ => pr_33 q_ y_ z_) y_))
    have pr_47 : ∀ q_, cartS p.s q_ → ¬ own p.s.ba q_ := fun q_ x_ z_ => (cart_case _ x_).elim (fun y_ => pr_18 q_ y_ z_) (fun y_ => y_.elim (fun y_ => pr_22 q_ y_ z_) (fun y_ => (fun y_ => pr_25 q_ y_ z_) y_))
    have pr_48 : ∀ q_, cartS p.s q_ → ¬ own p.s.pa q_ := fun q_ x_ z_ => (cart_case _ x_).elim (fun y_ => pr_19 q_ y_ z_) (fun y_ => y_.elim (fun y_ => pr_23 q_ y_ z_) (fun y_ => (fun y_ => pr_26 q_ y_ z_) y_))
    have pr_49 : ∀ q_, cartS p.s q_ → ¬ own p.s.sa q_ := fun q_ x_ z_ => (cart_case _ x_).elim (fun y_ => pr_20 q_ y_ z_) (fun y_ => y_.elim (fun y_ => pr_24 q_ y_ z_) (fun y_ => (fun y_ => pr_27 q_ y_ z_) y_))
    have pr_50 : ∀ q_, cartS p.s q_ → ¬ mgsS (ks.drop (i + 1)) q_ := fun q_ x_ z_ => (cart_case _ x_).elim (fun y_ => (fun q_ h1 h2 => (fun q_ h1_ h2_ => hRp_12 q_ h1_ (Or.inl h2_)) q_ h2 h1) q_ y_ z_) (fun y_ => y_.elim (fun y_ => (fun q_ h1 h2 => (fun q_ h1_ h2_ => hRp_12 q_ h1_ (Or.inr (Or.inl h2_))) q_ h2 h1) q_ y_ z_) (fun y_ => (fun y_ => (fun q_ h1 h2 => (fun q_ h1_ h2_ => hRp_12 q_ h1_ (Or.inr (Or.inr (Or.inl h2_)))) q_ h2 h1) q_ y_ z_) y_))
    have pg_51 : ∀ q_, cartS p.s q_ → q_ < w.heap.size → (spS a ks) q_ := fun q_ x_ hl_ => (cart_case _ x_).elim (fun y_ => (fun q_ h_ hl_ => pr_6 q_ ((fun q_ h_ => mgs_p hdr_9 q_ (Or.inl h_)) q_ h_) hl_) q_ y_ hl_) (fun y_ => y_.elim (fun y_ => (fun q_ h_ hl_ => pr_6 q_ ((fun q_ h_ => mgs_p hdr_9 q_ (Or.inr (Or.inl h_))) q_ h_) hl_) q_ y_ hl_) (fun y_ => (fun y_ => (fun q_ h_ hl_ => pr_6 q_ ((fun q_ h_ => mgs_p hdr_9 q_ (Or.inr (Or.inr (Or.inl h_)))) q_ h_) hl_) q_ y_ hl_) y_))
    replace ho_4 := ho_4.keepO K_45 (fun q_ h1 h2 => pr_46 q_ h2 h1)
    replace h6b := h6b.keepO K_45 (fun q_ h1 h2 => pr_47 q_ h2 h1)
    replace h6p := h6p.keepO K_45 (fun q_ h1 h2 => pr_48 q_ h2 h1)
    replace h6s := h6s.keepO K_45 (fun q_ h1 h2 => pr_49 q_ h2 h1)
    replace hM_11 := hM_11.keepO K_45 (fun q_ h1 h2 => pr_50 q_ h2 h1)
    replace hc_41 := hc_41.keep K_45 (fun h => (fun q_ h1 h2 => pr_46 q_ h2 h1) _ ((own_sub _) _ ha_40) h)
    replace K0 := K0.trans K_45 (fun x hlt hx => pg_51 x hx hlt)
    refine RL.nil ?_
    refine Run.seq ?_
    refine Run.seq ?_
    refine Run.region ?_
    refine RL.val (x_moveSl rfl) ?_
    refine RL.val (x_moveI rfl) ?_
    obtain ⟨b_52, o_53, x_56, hx_57, ha_54, hc_55⟩ := ho_4.sl.el (i := i) (by first | omega | (simp only [List.length_set]; omega))
    obtain rfl : (mkC p.v p.s) = x_56 := Option.some.inj (hxi.symm.trans hx_57)
    refine RL.val (x_idxN Tryz.underlying31 ty57 rfl rfl ha_54 (by first | omega | (simp only [List.length_set]; omega))) ?_
    refine RL.val (x_fld (o' := o_53 + i * 17 + 11) Tryz.underlying57 rfl ty53 rfl rfl rfl) ?_
    refine RL.val (x_fld (o' := o_53 + i * 17 + 11 + 3) Tryz.underlying53 rfl ty51 rfl rfl rfl) ?_
    refine RL.val (x_ld ty51 rfl rfl (hc_55.field (i := 14) rfl)) ?_
    refine RL.val (x_lenSl Tryz.underlying51 rfl) ?_
    refine RL.val (x_moveI rfl) ?_
    refine RL.nil ?_
    refine Run.block ?_
    refine Run.loop (ι := Nat) (fun k ρ' w' => ∃ ub : List MemberC, Holds ρ' [(0, .slice (a) ((ks.map Pk.c).length) (c)), (2, .int .i64 (((i : Nat) : Int))), (7, .int .i64 ((((ks.map Pk.c).length : Nat) : Int))), (8, .int .i64 (((i : Nat) : Int))), (9, .bool (decide (((i : Nat) : Int) < (((ks.map Pk.c).length : Nat) : Int)))), (23, .int .i64 (((p.v.mem.length : Nat) : Int))), (24, .int .i64 (((k : Nat) : Int)))] ∧ Keeps (spS a ks) w w' ∧ (OwnSl w' 57 (a) (c) (xs)) ∧ (OwnSl w' 87 (p.s.pa) (p.s.pc) (p.v.pe)) ∧ (OwnSl w' 90 (p.s.sa) (p.s.sc) (p.v.su)) ∧ (MgsAt w' (ks.drop (i + 1))) ∧ (OwnSl w' 85 p.s.ba p.s.bc (ub)) ∧ (∀ q_, own p.s.ba q_ → ¬ own a q_) ∧ (∀ q_, own p.s.ba q_ → ¬ own p.s.pa q_) ∧ (∀ q_, own p.s.ba q_ → ¬ own p.s.sa q_) ∧ (∀ q_, own p.s.ba q_ → ¬ mgsS (ks.drop (i + 1)) q_) ∧ (∀ q_, own p.s.ba q_ → q_ < w.heap.size → (spS a ks) q_) ∧ (k ≤ p.v.mem.length) ∧ (ub.length = p.v.mem.length)) (fun k => p.v.mem.length - k) 0 ?_ ?_
    · refine ⟨p.v.mem, ⟨rfl, rfl, rfl, rfl, rfl, rfl, rfl, trivial⟩, K0, ho_4, h6p, h6s, hM_11, h6b, pr_34, pr_28, pr_29, (fun q_ h1 h2 => (fun q_ h1_ h2_ => hRp_12 q_ h1_ (Or.inr (Or.inr (Or.inr (Or.inl h2_))))) q_ h2 h1), (fun q_ h_ hl_ => pr_6 q_ ((fun q_ h_ => mgs_p hdr_9 q_ (Or.inr (Or.inr (Or.inr (Or.inl h_))))) q_ h_) hl_), ?_, ?_⟩
      · omega
      · rfl
    clear ho_4 h6b h6p h6s hM_11
    clear K0
    rintro k ρ_66 w_58 ⟨ub, hH_59, K0, ho_4, h6p, h6s, hM_11, ho_60, pr_61, pr_62, pr_63, pr_64, pr_65, hk, hulb⟩ ih2
    obtain ⟨ρ₀, rfl⟩ := hH_59.ex
    clear hH_59
    refine Run.seq ?_
    refine Run.region ?_
    refine RL.val (x_ltI rfl rfl) ?_
    refine RL.nil ?_
    refine Run.seq ?_
    refine Run.cond rfl (fun hc25 => ?_) (fun hc25 => ?_)
    · try simp only [br] at hc25
      refine Run.skip ?_
      refine Run.seq ?_
      refine Run.block ?_
      refine Run.seq ?_
      refine Run.region ?_
      refine RL.val (x_moveI rfl) ?_
      refine RL.val (x_assignI rfl) ?_
      refine RL.nil ?_
      refine Run.region ?_
      refine RL.val (x_moveSl rfl) ?_
      refine RL.val (x_moveI rfl) ?_
      obtain ⟨b_67, o_68, x_71, hx_72, ha_69, hc_70⟩ := ho_4.sl.el (i := i) (by first | omega | (simp only [List.length_set]; omega))
      obtain rfl : (mkC p.v p.s) = x_71 := Option.some.inj (hxi.symm.trans hx_72)
      refine RL.val (x_idxN Tryz.underlying31 ty57 rfl rfl ha_69 (by first | omega | (simp only [List.length_set]; omega))) ?_
      refine RL.val (x_fld (o' := o_68 + i * 17 + 11) Tryz.underlying57 rfl ty53 rfl rfl rfl) ?_
      refine RL.val (x_fld (o' := o_68 + i * 17 + 11 + 3) Tryz.underlying53 rfl ty51 rfl rfl rfl) ?_
      refine RL.val (litSl (m' := ub.length) (x_ld ty51 rfl rfl (hc_70.field (i := 14) rfl)) hulb.symm) ?_
      refine RL.val (x_moveI rfl) ?_
      refine RL.val (x_build (cells := #[.int .i64 (99), .int .i64 (0), .int .i64 (0), .int .i64 (0)]) (by kernel_rfl)) ?_
      obtain ⟨b_73, o_74, x_77, hx_78, ha_75, hc_76⟩ := ho_60.sl.el (i := k) (by first | omega | (simp only [List.length_set]; omega))
      refine RL.val (x_idxN Tryz.underlying51 ty85 rfl rfl ha_75 (by first | omega | (simp only [List.length_set]; omega))) ?_
      refine RL.st rfl <| St1.storeEl (v := .agg #[.int .i64 (99), .int .i64 (0), .int .i64 (0), .int .i64 (0)]) (off := 0) (i := k) (⟨99, 0, 0, 0⟩ : MemberC) ty85 rfl rfl rfl (by simp [Value.cells, Value.oneCell']) ho_60 ha_75 hx_78 rfl (by decide) rfl ?_
      intro w_79 ho_81 K_80
      clear hc_76
      replace ho_4 := ho_4.keepO K_80 (fun q_ h1 h2 => pr_61 q_ h2 h1)
      replace h6p := h6p.keepO K_80 (fun q_ h1 h2 => pr_62 q_ h2 h1)
      replace h6s := h6s.keepO K_80 (fun q_ h1 h2 => pr_63 q_ h2 h1)
      replace hM_11 := hM_11.keepO K_80 (fun q_ h1 h2 => pr_64 q_ h2 h1)
      replace hc_70 := hc_70.keep K_80 (fun h => (fun q_ h1 h2 => pr_61 q_ h2 h1) _ ((own_sub _) _ ha_69) h)
      replace K0 := K0.trans K_80 (fun x hlt hx => pr_65 x hx hlt)
      replace ho_60 := ho_81
      clear ho_81
      refine RL.nil ?_
      refine Run.inBlock ?_
      refine Run.region ?_
      refine RL.val (litI (c := ((k + 1 : Nat) : Int)) (x_add rfl rfl (by omega) (by omega)) rfl) ?_
      refine RL.val (x_moveI rfl) ?_
      refine RL.nil ?_
      refine ih2 (k + 1) _ _ ?_ (by omega)
      refine ⟨_, ⟨rfl, rfl, rfl, rfl, rfl, rfl, rfl, trivial⟩, K0, ho_4, h6p, h6s, hM_11, ho_60, pr_61, pr_62, pr_63, pr_64, pr_65, ?_, ?_⟩
      · omega
      · rw [List.length_set]; exact hulb
    · try simp only [br] at hc25
      refine Run.exit rfl ?_
      refine Run.seq ?_
      refine Run.seq ?_
      refine Run.region ?_
      refine RL.val (x_moveSl rfl) ?_
      refine RL.val (x_moveI rfl) ?_
      obtain ⟨b_82, o_83, x_86, hx_87, ha_84, hc_85⟩ := ho_4.sl.el (i := i) (by first | omega | (simp only [List.length_set]; omega))
      obtain rfl : (mkC p.v p.s) = x_86 := Option.some.inj (hxi.symm.trans hx_87)
      refine RL.val (x_idxN Tryz.underlying31 ty57 rfl rfl ha_84 (by first | omega | (simp only [List.length_set]; omega))) ?_
      refine RL.val (x_fld (o' := o_83 + i * 17 + 15) Tryz.underlying57 rfl ty54 rfl rfl rfl) ?_
      refine RL.val (x_ld ty54 rfl rfl (hc_85.field (i := 15) rfl)) ?_
      refine RL.val (x_lenSl Tryz.underlying54 rfl) ?_
      refine RL.val (x_moveI rfl) ?_
      refine RL.nil ?_
      refine Run.block ?_
      refine Run.loop (ι := Nat) (fun k ρ' w' => ∃ up : List PeerC, Holds ρ' [(0, .slice (a) ((ks.map Pk.c).length) (c)), (2, .int .i64 (((i : Nat) : Int))), (7, .int .i64 ((((ks.map Pk.c).length : Nat) : Int))), (8, .int .i64 (((i : Nat) : Int))), (9, .bool (decide (((i : Nat) : Int) < (((ks.map Pk.c).length : Nat) : Int)))), (42, .int .i64 (((p.v.pe.length : Nat) : Int))), (43, .int .i64 (((k : Nat) : Int)))] ∧ Keeps (spS a ks) w w' ∧ (OwnSl w' 57 (a) (c) (xs)) ∧ (OwnSl w' 90 (p.s.sa) (p.s.sc) (p.v.su)) ∧ (MgsAt w' (ks.drop (i + 1))) ∧ (OwnSl w' 85 (p.s.ba) (p.s.bc) (ub)) ∧ (OwnSl w' 87 p.s.pa p.s.pc (up)) ∧ (∀ q_, own p.s.pa q_ → ¬ own a q_) ∧ (∀ q_, own p.s.pa q_ → ¬ own p.s.sa q_) ∧ (∀ q_, own p.s.pa q_ → ¬ mgsS (ks.drop (i + 1)) q_) ∧ (∀ q_, own p.s.pa q_ → ¬ own p.s.ba q_) ∧ (∀ q_, own p.s.pa q_ → q_ < w.heap.size → (spS a ks) q_) ∧ (k ≤ p.v.pe.length) ∧ (up.length = p.v.pe.length)) (fun k => p.v.pe.length - k) 0 ?_ ?_
      · refine ⟨p.v.pe, ⟨rfl, rfl, rfl, rfl, rfl, rfl, rfl, trivial⟩, K0, ho_4, h6s, hM_11, ho_60, h6p, pr_35, pr_30, (fun q_ h1 h2 => (fun q_ h1_ h2_ => hRp_12 q_ h1_ (Or.inr (Or.inr (Or.inr (Or.inr (Or.inl h2_)))))) q_ h2 h1), (fun q_ h1 h2 => pr_62 q_ h2 h1), (fun q_ h_ hl_ => pr_6 q_ ((fun q_ h_ => mgs_p hdr_9 q_ (Or.inr (Or.inr (Or.inr (Or.inr (Or.inl h_)))))) q_ h_) hl_), ?_, ?_⟩
        · omega
        · rfl
      clear ho_4 h6p h6s hM_11 ho_60
      clear K0
      rintro k ρ_96 w_88 ⟨up, hH_89, K0, ho_4, h6s, hM_11, ho_60, ho_90, pr_91, pr_92, pr_93, pr_94, pr_95, hk, hulp⟩ ih3
      obtain ⟨ρ₀, rfl⟩ := hH_89.ex
      clear hH_89
      refine Run.seq ?_
      refine Run.region ?_
      refine RL.val (x_ltI rfl rfl) ?_
      refine RL.nil ?_
      refine Run.seq ?_
      refine Run.cond rfl (fun hc44 => ?_) (fun hc44 => ?_)
      · try simp only [br] at hc44
        refine Run.skip ?_
        refine Run.seq ?_
        refine Run.block ?_
        refine Run.seq ?_
        refine Run.region ?_
        refine RL.val (x_moveI rfl) ?_
        refine RL.val (x_assignI rfl) ?_
        refine RL.nil ?_
        refine Run.region ?_
        refine RL.val (x_moveSl rfl) ?_
        refine RL.val (x_moveI rfl) ?_
        obtain ⟨b_97, o_98, x_101, hx_102, ha_99, hc_100⟩ := ho_4.sl.el (i := i) (by first | omega | (simp only [List.length_set]; omega))
        obtain rfl : (mkC p.v p.s) = x_101 := Option.some.inj (hxi.symm.trans hx_102)
        refine RL.val (x_idxN Tryz.underlying31 ty57 rfl rfl ha_99 (by first | omega | (simp only [List.length_set]; omega))) ?_
        refine RL.val (x_fld (o' := o_98 + i * 17 + 15) Tryz.underlying57 rfl ty54 rfl rfl rfl) ?_
        refine RL.val (litSl (m' := up.length) (x_ld ty54 rfl rfl (hc_100.field (i := 15) rfl)) hulp.symm) ?_
        refine RL.val (x_moveI rfl) ?_
        refine RL.val (x_build (cells := #[.int .i64 (99), .int .i64 (0), .int .i64 (0)]) (by kernel_rfl)) ?_
        obtain ⟨b_103, o_104, x_107, hx_108, ha_105, hc_106⟩ := ho_90.sl.el (i := k) (by first | omega | (simp only [List.length_set]; omega))
        refine RL.val (x_idxN Tryz.underlying54 ty87 rfl rfl ha_105 (by first | omega | (simp only [List.length_set]; omega))) ?_
        refine RL.st rfl <| St1.storeEl (v := .agg #[.int .i64 (99), .int .i64 (0), .int .i64 (0)]) (off := 0) (i := k) (⟨99, 0, 0⟩ : PeerC) ty87 rfl rfl rfl (by simp [Value.cells, Value.oneCell']) ho_90 ha_105 hx_108 rfl (by decide) rfl ?_
        intro w_109 ho_111 K_110
        clear hc_106
        replace ho_4 := ho_4.keepO K_110 (fun q_ h1 h2 => pr_91 q_ h2 h1)
        replace h6s := h6s.keepO K_110 (fun q_ h1 h2 => pr_92 q_ h2 h1)
        replace hM_11 := hM_11.keepO K_110 (fun q_ h1 h2 => pr_93 q_ h2 h1)
        replace ho_60 := ho_60.keepO K_110 (fun q_ h1 h2 => pr_94 q_ h2 h1)
        replace hc_100 := hc_100.keep K_110 (fun h => (fun q_ h1 h2 => pr_91 q_ h2 h1) _ ((own_sub _) _ ha_99) h)
        replace K0 := K0.trans K_110 (fun x hlt hx => pr_95 x hx hlt)
        replace ho_90 := ho_111
        clear ho_111
        refine RL.nil ?_
        refine Run.inBlock ?_
        refine Run.region ?_
        refine RL.val (litI (c := ((k + 1 : Nat) : Int)) (x_add rfl rfl (by omega) (by omega)) rfl) ?_
        refine RL.val (x_moveI rfl) ?_
        refine RL.nil ?_
        refine ih3 (k + 1) _ _ ?_ (by omega)
        refine ⟨_, ⟨rfl, rfl, rfl, rfl, rfl, rfl, rfl, trivial⟩, K0, ho_4, h6s, hM_11, ho_60, ho_90, pr_91, pr_92, pr_93, pr_94, pr_95, ?_, ?_⟩
        · omega
        · rw [List.length_set]; exact hulp
      · try simp only [br] at hc44
        refine Run.exit rfl ?_
        refine Run.seq ?_
        refine Run.seq ?_
        refine Run.region ?_
        refine RL.val (x_moveSl rfl) ?_
        refine RL.val (x_moveI rfl) ?_
        obtain ⟨b_112, o_113, x_116, hx_117, ha_114, hc_115⟩ := ho_4.sl.el (i := i) (by first | omega | (simp only [List.length_set]; omega))
        obtain rfl : (mkC p.v p.s) = x_116 := Option.some.inj (hxi.symm.trans hx_117)
        refine RL.val (x_idxN Tryz.underlying31 ty57 rfl rfl ha_114 (by first | omega | (simp only [List.length_set]; omega))) ?_
        refine RL.val (x_fld (o' := o_113 + i * 17 + 16) Tryz.underlying57 rfl ty55 rfl rfl rfl) ?_
        refine RL.val (x_ld ty55 rfl rfl (hc_115.field (i := 16) rfl)) ?_
        refine RL.val (x_lenSl Tryz.underlying55 rfl) ?_
        refine RL.val (x_moveI rfl) ?_
        refine RL.nil ?_
        refine Run.block ?_
        refine Run.loop (ι := Nat) (fun k ρ' w' => ∃ us : List SumC, Holds ρ' [(0, .slice (a) ((ks.map Pk.c).length) (c)), (2, .int .i64 (((i : Nat) : Int))), (7, .int .i64 ((((ks.map Pk.c).length : Nat) : Int))), (8, .int .i64 (((i : Nat) : Int))), (9, .bool (decide (((i : Nat) : Int) < (((ks.map Pk.c).length : Nat) : Int)))), (60, .int .i64 (((p.v.su.length : Nat) : Int))), (61, .int .i64 (((k : Nat) : Int)))] ∧ Keeps (spS a ks) w w' ∧ (OwnSl w' 57 (a) (c) (xs)) ∧ (MgsAt w' (ks.drop (i + 1))) ∧ (OwnSl w' 85 (p.s.ba) (p.s.bc) (ub)) ∧ (OwnSl w' 87 (p.s.pa) (p.s.pc) (up)) ∧ (OwnSl w' 90 p.s.sa p.s.sc (us)) ∧ (∀ q_, own p.s.sa q_ → ¬ own a q_) ∧ (∀ q_, own p.s.sa q_ → ¬ mgsS (ks.drop (i + 1)) q_) ∧ (∀ q_, own p.s.sa q_ → ¬ own p.s.ba q_) ∧ (∀ q_, own p.s.sa q_ → ¬ own p.s.pa q_) ∧ (∀ q_, own p.s.sa q_ → q_ < w.heap.size → (spS a ks) q_) ∧ (k ≤ p.v.su.length) ∧ (us.length = p.v.su.length)) (fun k => p.v.su.length - k) 0 ?_ ?_
        · refine ⟨p.v.su, ⟨rfl, rfl, rfl, rfl, rfl, rfl, rfl, trivial⟩, K0, ho_4, hM_11, ho_60, ho_90, h6s, pr_36, (fun q_ h1 h2 => (fun q_ h1_ h2_ => hRp_12 q_ h1_ (Or.inr (Or.inr (Or.inr (Or.inr (Or.inr (h2_))))))) q_ h2 h1), (fun q_ h1 h2 => pr_63 q_ h2 h1), (fun q_ h1 h2 => pr_92 q_ h2 h1), (fun q_ h_ hl_ => pr_6 q_ ((fun q_ h_ => mgs_p hdr_9 q_ (Or.inr (Or.inr (Or.inr (Or.inr (Or.inr (h_))))))) q_ h_) hl_), ?_, ?_⟩
          · omega
          · rfl
        clear ho_4 h6s hM_11 ho_60 ho_90
        clear K0
        rintro k ρ_126 w_118 ⟨us, hH_119, K0, ho_4, hM_11, ho_60, ho_90, ho_120, pr_121, pr_122, pr_123, pr_124, pr_125, hk, huls⟩ ih4
        obtain ⟨ρ₀, rfl⟩ := hH_119.ex
        clear hH_119
        refine Run.seq ?_
        refine Run.region ?_
        refine RL.val (x_ltI rfl rfl) ?_
        refine RL.nil ?_
        refine Run.seq ?_
        refine Run.cond rfl (fun hc62 => ?_) (fun hc62 => ?_)
        · try simp only [br] at hc62
          refine Run.skip ?_
          refine Run.seq ?_
          refine Run.block ?_
          refine Run.seq ?_
          refine Run.region ?_
          refine RL.val (x_moveI rfl) ?_
          refine RL.val (x_assignI rfl) ?_
          refine RL.nil ?_
          refine Run.region ?_
          refine RL.val (x_moveSl rfl) ?_
          refine RL.val (x_moveI rfl) ?_
          obtain ⟨b_127, o_128, x_131, hx_132, ha_129, hc_130⟩ := ho_4.sl.el (i := i) (by first | omega | (simp only [List.length_set]; omega))
          obtain rfl : (mkC p.v p.s) = x_131 := Option.some.inj (hxi.symm.trans hx_132)
          refine RL.val (x_idxN Tryz.underlying31 ty57 rfl rfl ha_129 (by first | omega | (simp only [List.length_set]; omega))) ?_
          refine RL.val (x_fld (o' := o_128 + i * 17 + 16) Tryz.underlying57 rfl ty55 rfl rfl rfl) ?_
          refine RL.val (litSl (m' := us.length) (x_ld ty55 rfl rfl (hc_130.field (i := 16) rfl)) huls.symm) ?_
          refine RL.val (x_moveI rfl) ?_
          refine RL.val (x_build (cells := #[.int .i64 (0), .string (⟨#[33]⟩), .int .u64 (0)]) (by kernel_rfl)) ?_
          obtain ⟨b_133, o_134, x_137, hx_138, ha_135, hc_136⟩ := ho_120.sl.el (i := k) (by first | omega | (simp only [List.length_set]; omega))
          refine RL.val (x_idxN Tryz.underlying55 ty90 rfl rfl ha_135 (by first | omega | (simp only [List.length_set]; omega))) ?_
          refine RL.st rfl <| St1.storeEl (v := .agg #[.int .i64 (0), .string (⟨#[33]⟩), .int .u64 (0)]) (off := 0) (i := k) (⟨0, ⟨#[33]⟩, 0⟩ : SumC) ty90 rfl rfl rfl (by simp [Value.cells, Value.oneCell']) ho_120 ha_135 hx_138 rfl (by decide) rfl ?_
          intro w_139 ho_141 K_140
          clear hc_136
          replace ho_4 := ho_4.keepO K_140 (fun q_ h1 h2 => pr_121 q_ h2 h1)
          replace hM_11 := hM_11.keepO K_140 (fun q_ h1 h2 => pr_122 q_ h2 h1)
          replace ho_60 := ho_60.keepO K_140 (fun q_ h1 h2 => pr_123 q_ h2 h1)
          replace ho_90 := ho_90.keepO K_140 (fun q_ h1 h2 => pr_124 q_ h2 h1)
          replace hc_130 := hc_130.keep K_140 (fun h => (fun q_ h1 h2 => pr_121 q_ h2 h1) _ ((own_sub _) _ ha_129) h)
          replace K0 := K0.trans K_140 (fun x hlt hx => pr_125 x hx hlt)
          replace ho_120 := ho_141
          clear ho_141
          refine RL.nil ?_
          refine Run.inBlock ?_
          refine Run.region ?_
          refine RL.val (litI (c := ((k + 1 : Nat) : Int)) (x_add rfl rfl (by omega) (by omega)) rfl) ?_
          refine RL.val (x_moveI rfl) ?_
          refine RL.nil ?_
          refine ih4 (k + 1) _ _ ?_ (by omega)
          refine ⟨_, ⟨rfl, rfl, rfl, rfl, rfl, rfl, rfl, trivial⟩, K0, ho_4, hM_11, ho_60, ho_90, ho_120, pr_121, pr_122, pr_123, pr_124, pr_125, ?_, ?_⟩
          · omega
          · rw [List.length_set]; exact huls
        · try simp only [br] at hc62
          refine Run.exit rfl ?_
          refine Run.region ?_
          refine RL.val (x_moveSl rfl) ?_
          refine RL.val (x_moveI rfl) ?_
          obtain ⟨b_142, o_143, x_146, hx_147, ha_144, hc_145⟩ := ho_4.sl.el (i := i) (by first | omega | (simp only [List.length_set]; omega))
          obtain rfl : (mkC p.v p.s) = x_146 := Option.some.inj (hxi.symm.trans hx_147)
          refine RL.val (x_idxN Tryz.underlying31 ty57 rfl rfl ha_144 (by first | omega | (simp only [List.length_set]; omega))) ?_
          refine RL.val (x_fld (o' := o_143 + i * 17 + 0) Tryz.underlying57 rfl ty3 rfl rfl rfl) ?_
          refine RL.st rfl <| St1.storeEl (v := .int .i64 (99)) (off := 0) (i := i) ({ (mkC p.v p.s) with kind := 99 }) ty3 rfl rfl rfl (by simp [Value.cells, Value.oneCell']) ho_4 ha_144 hx_147 rfl (by decide) rfl ?_
          intro w_148 ho_150 K_149
          clear hc_145
          replace hM_11 := hM_11.keepO K_149 pr_37
          replace ho_60 := ho_60.keepO K_149 pr_61
          replace ho_90 := ho_90.keepO K_149 pr_91
          replace ho_120 := ho_120.keepO K_149 pr_121
          replace K0 := K0.trans K_149 (fun x hlt hx => pr_7 x hx hlt)
          replace ho_4 := ho_150
          clear ho_150
          refine RL.nil ?_
          refine Run.inBlock ?_
          refine Run.region ?_
          refine RL.val (litI (c := ((i + 1 : Nat) : Int)) (x_add rfl rfl (by omega) (by omega)) rfl) ?_
          refine RL.val (x_moveI rfl) ?_
          refine RL.nil ?_
          refine ih1 (i + 1) _ _ ?_ (by omega)
          refine ⟨_, ⟨rfl, rfl, rfl, trivial⟩, K0, hM_11, ho_4, pr_37, (fun q_ h_ hl_ => pr_6 q_ ((mgs_r (l1 := []) hdr_9) q_ h_) hl_), pr_7, ?_, ?_, ?_⟩
          · omega
          · rw [List.length_set]; exact hxl
          · exact fun j hj => by rw [List.getElem?_set_ne (by omega)]; exact hxs j (by omega)
  · try simp only [br] at hc9
    refine Run.exit rfl ?_
    refine Run.fin0 Tryz.func12 rfl ?_
    exact ⟨_, rfl, rfl, K0⟩

end Go.Proofs.YtdlaoncjiolckaaGreat
