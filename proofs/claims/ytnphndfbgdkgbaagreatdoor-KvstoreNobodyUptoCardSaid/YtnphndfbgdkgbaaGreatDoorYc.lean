/-
  Layer 7: swap, cut.
-/
import Derived.Test.YtnphndfbgdkgbaaGreatDoorRows
import Derived.Test.YtnphndfbgdkgbaaGreatDoorYb
namespace Go.Proofs.YtnphndfbgdkgbaaGreatDoor
attribute [local irreducible] St1 RL RA RT RT1 Run
attribute [local irreducible] crcN crcL crcS crcB numL leL unfR nameS segsL sortZ segI segO hasP restP

theorem cast_ret {f : FuncId} {args : Array Value} {w : World} {Φ Ψ : Value → World → Prop} (h : Calls Tryz.prog f args w (Ret Φ)) (e : Φ = Ψ) : Calls Tryz.prog f args w (Ret Ψ) := e ▸ h
theorem cut_rem {room : Int} {pl : List PF} {bs : List UInt8} {n : Int} {r : List Int} (h : bs = []) : cutP room pl bs n r = (0, remsL (remL pl (nameS n)) r) := by rw [cutP, if_pos h]
theorem cut_swap {room : Int} {pl : List PF} {bs : List UInt8} {n : Int} {r : List Int} (h : bs ≠ []) (h2 : (swapP room pl bs n).1 = 0) : cutP room pl bs n r = (0, remsL (swapP room pl bs n).2 r) := by rw [cutP, if_neg h, if_pos h2]
theorem cut_bad {room : Int} {pl : List PF} {bs : List UInt8} {n : Int} {r : List Int} (h : bs ≠ []) (h2 : (swapP room pl bs n).1 ≠ 0) : cutP room pl bs n r = swapP room pl bs n := by rw [cutP, if_neg h, if_neg h2]
theorem movedS_foot {w : World} {F F' : Nat → Prop} (h : ∀ q, F' q → q < w.heap.size → F q) : MovedS w F F' := movedS_of h

theorem en67 : Enters Tryz.prog 67 := enters_of Tryz.func67 rfl (by kernel_rfl)
theorem en69 : Enters Tryz.prog 69 := enters_of Tryz.func69 rfl (by kernel_rfl)
theorem en84 : Enters Tryz.prog 84 := enters_of Tryz.func84 rfl (by kernel_rfl)
theorem en85 : Enters Tryz.prog 85 := enters_of Tryz.func85 rfl (by kernel_rfl)
theorem en126 : Enters Tryz.prog 126 := enters_of Tryz.func126 rfl (by kernel_rfl)

set_option maxRecDepth 100000 in
set_option maxHeartbeats 4000000 in
theorem swap_ (b d : Nat) (F : Nat → Prop) (room : Int) (pl : List PF) (a : Option Addr) (xs : List UInt8) (c : Nat) (n : Int) (w : World) (hb : Blk w b [.pointer (some ⟨d, 0, none⟩)] 122) (hD : DiskAt w d F room pl) (hbd : ¬ F b) (hL : LaidOk w) (hFG : ∀ q, F q → 7 ≤ q) (hs : SlOf w a xs) (hdis : ∀ x, a = some x → ¬ F x.block) (hl : xs.length ≤ 1073741824) :
    Calls Tryz.prog 84 #[.pointer (some ⟨b, 0, none⟩), .slice (a) (xs.length) (c), .int .i64 (n)] w (Ret (DStep d F room w (swapP room pl xs n).1 (swapP room pl xs n).2)) := by
  have hLs := hL.size
  have hnm := nameS_may n
  have hfs : freshN.size = 7 := rfl
  refine calls_run (n := 31) Tryz.func84 rfl rfl rfl ?_
  refine Run.seq ?_
  refine Run.region ?_
  refine RL.val (x_assignI rfl) ?_
  refine RL.nil ?_
  refine Run.seq ?_
  refine Run.region ?_
  refine RL.val (x_moveP rfl) ?_
  refine RL.val (x_nilCheck rfl) ?_
  refine RL.val (x_fld (o' := 0) Tryz.underlying120 rfl ty62 rfl rfl rfl) ?_
  refine RL.val (x_ld (v := .pointer (some ⟨d, 0, none⟩)) ty62 rfl rfl (hb.cl.field (i := 0) rfl)) ?_
  refine RL.val (x_moveSl rfl) ?_
  refine RL.st rfl <| St1.call (vals := [.pointer (some ⟨d, 0, none⟩), .string (freshN), .slice (a) (xs.length) (c)]) en69 rfl (appendD hD freshN _ _ _ (by first | omega | decide) hs (by assumption) (by first | omega | decide)) ?_
  rintro _ w_2 ⟨F_1, rfl, hD_3, hm_4, K_5⟩
  have pr_6 : ¬ F_1 b := hm_4.not hbd hb.lt
  have pg_7 : ∀ q_, F_1 q_ → q_ < w.heap.size → F q_ := hm_4.inS (fun q_ h_ _ => h_) (Nat.le_refl _)
  have pG_8 : ∀ q_, F_1 q_ → 7 ≤ q_ := fun q_ h_ => (hm_4 q_ h_).elim (hFG q_) (fun h2_ => Nat.le_trans hLs (Nat.le_trans (Nat.le_refl _) h2_))
  replace hb := hb.keep K_5 hbd
  replace hL := hL.keep K_5 hFG
  have K0 := (Keeps.refl F w).trans K_5 (fun x hlt hx => (fun q_ h_ _ => h_) x hx hlt)
  clear hm_4
  refine RL.val (x_assignI rfl) ?_
  refine RL.nil ?_
  refine Run.seq ?_
  refine Run.seq ?_
  refine Run.region ?_
  refine RL.val (x_moveI rfl) ?_
  refine RL.val (x_eqI rfl rfl) ?_
  refine RL.nil ?_
  refine Run.cond rfl (fun hc15 => ?_) (fun hc15 => ?_)
  · try simp only [br] at hc15
    refine Run.region ?_
    refine RL.val (x_moveP rfl) ?_
    refine RL.val (x_nilCheck rfl) ?_
    refine RL.val (x_fld (o' := 0) Tryz.underlying120 rfl ty62 rfl rfl rfl) ?_
    refine RL.val (x_ld (v := .pointer (some ⟨d, 0, none⟩)) ty62 rfl rfl (hb.cl.field (i := 0) rfl)) ?_
    refine RL.st rfl <| St1.call (vals := [.pointer (some ⟨d, 0, none⟩), .string (freshN)]) en67 rfl (syncD hD_3 freshN (by first | omega | decide)) ?_
    rintro _ w_10 ⟨F_9, rfl, hD_11, hm_12, K_13⟩
    have pr_14 : ¬ F_9 b := hm_12.not pr_6 hb.lt
    have pg_15 : ∀ q_, F_9 q_ → q_ < w.heap.size → F q_ := hm_12.inS pg_7 K0.size
    have pG_16 : ∀ q_, F_9 q_ → 7 ≤ q_ := fun q_ h_ => (hm_12 q_ h_).elim (pG_8 q_) (fun h2_ => Nat.le_trans hLs (Nat.le_trans K0.size h2_))
    replace hb := hb.keep K_13 pr_6
    replace hL := hL.keep K_13 pG_8
    replace K0 := K0.trans K_13 (fun x hlt hx => pg_7 x hx hlt)
    clear hm_12
    refine RL.val (x_assignI rfl) ?_
    refine RL.nil ?_
    refine Run.seq ?_
    refine Run.seq ?_
    refine Run.region ?_
    refine RL.val (x_moveI rfl) ?_
    refine RL.val (x_eqI rfl rfl) ?_
    refine RL.nil ?_
    refine Run.cond rfl (fun hc22 => ?_) (fun hc22 => ?_)
    · try simp only [br] at hc22
      skip
      refine Run.drawT [] (m := 8) (by kernel_rfl) rfl ?_
      intro w_17 K_18
      replace hb := hb.ext K_18
      replace hL := hL.ext K_18
      replace hD_11 := hD_11.ext K_18
      replace K0 := K0.ext K_18
      refine ⟨fun w' => Blk w' b [.pointer (some ⟨d, 0, none⟩)] 122 ∧ True, ?_⟩
      refine RT.takeP (v := .pointer (some ⟨b, 0, none⟩)) 0 rfl (by kernel_rfl) (.inr ⟨hb, trivial⟩) (fun _ => (x_moveP rfl)) ?_
      refine RT.takeP (v := .pointer (some ⟨b, 0, none⟩)) 1 rfl (by kernel_rfl) (.inr ⟨hb, trivial⟩) (fun _ => (x_nilCheck rfl)) ?_
      refine RT.takeP (v := .pointer (some ⟨b, 0, none⟩)) 2 rfl (by kernel_rfl) (.inr ⟨hb, trivial⟩) (fun _ => (x_fld (o' := 0) Tryz.underlying120 rfl ty62 rfl rfl rfl)) ?_
      refine RT.take (v := .pointer (some ⟨d, 0, none⟩)) 3 rfl (by kernel_rfl) ⟨hb, trivial⟩ (by rintro _ ⟨hb, -⟩; exact (x_ld (v := .pointer (some ⟨d, 0, none⟩)) ty62 rfl rfl (hb.cl.field (i := 0) rfl))) ?_
      refine RT.takeP (v := .int .i64 (n)) 4 rfl (by kernel_rfl) (.inr ⟨hb, trivial⟩) (fun _ => (x_moveI rfl)) ?_
      refine RT.st 5 rfl (by kernel_rfl) rfl <| St1.call (vals := [.int .i64 (n)]) en66 rfl (segName_ n _ hL) ?_
      rintro _ w_19 ⟨rfl, K_20⟩
      replace hb := hb.ext K_20
      replace hL := hL.ext K_20
      replace hD_11 := hD_11.ext K_20
      replace K0 := K0.ext K_20
      refine ⟨.inr ⟨hb, trivial⟩, ?_⟩
      refine RT.st 6 rfl (by kernel_rfl) rfl <| St1.call (vals := [.pointer (some ⟨d, 0, none⟩), .string (freshN), .string (nameS n)]) en126 rfl (renameD hD_11 freshN (nameS n) (by first | omega | decide) (by first | omega | decide)) ?_
      rintro _ w_22 ⟨F_21, rfl, hD_23, hm_24, K_25⟩
      have pr_26 : ¬ F_21 b := hm_24.not pr_14 hb.lt
      have pg_27 : ∀ q_, F_21 q_ → q_ < w.heap.size → F q_ := hm_24.inS pg_15 K0.size
      have pG_28 : ∀ q_, F_21 q_ → 7 ≤ q_ := fun q_ h_ => (hm_24 q_ h_).elim (pG_16 q_) (fun h2_ => Nat.le_trans hLs (Nat.le_trans K0.size h2_))
      replace hb := hb.keep K_25 pr_14
      replace hL := hL.keep K_25 pG_16
      replace K0 := K0.trans K_25 (fun x hlt hx => pg_15 x hx hlt)
      clear hm_24
      refine ⟨.inr ⟨hb, trivial⟩, ?_⟩
      refine RT.takeP (v := .int .i64 (renE (syncL (appL room pl freshN xs) freshN) freshN (nameS n))) 7 rfl (by kernel_rfl) (.inr ⟨hb, trivial⟩) (fun _ => (x_assignI rfl)) ?_
      refine RT.done (by kernel_rfl) ?_
      refine Run.seq ?_
      refine Run.region ?_
      refine RL.val (x_moveI rfl) ?_
      refine RL.val (x_assignI rfl) ?_
      refine RL.nil ?_
      refine Run.ret1 (v := .int .i64 (renE (syncL (appL room pl freshN xs) freshN) freshN (nameS n))) Tryz.func84 rfl rfl ?_
      have hEq : swapP room pl xs n = (renE (syncL (appL room pl freshN xs) freshN) freshN (nameS n), renL (syncL (appL room pl freshN xs) freshN) freshN (nameS n)) := by rw [swapP, if_pos hc15, if_pos hc22]
      rw [hEq]
      exact ⟨_, rfl, F_21, rfl, hD_23, movedS_foot pg_27, K0⟩
    · try simp only [br] at hc22
      skip
      refine Run.skip ?_
      refine Run.seq ?_
      refine Run.region ?_
      refine RL.val (x_moveI rfl) ?_
      refine RL.val (x_assignI rfl) ?_
      refine RL.nil ?_
      refine Run.ret1 (v := .int .i64 (lookE (appL room pl freshN xs) freshN)) Tryz.func84 rfl rfl ?_
      have hEq : swapP room pl xs n = (lookE (appL room pl freshN xs) freshN, syncL (appL room pl freshN xs) freshN) := by rw [swapP, if_pos hc15, if_neg hc22]
      rw [hEq]
      exact ⟨_, rfl, F_9, rfl, hD_11, movedS_foot pg_15, K0⟩
  · try simp only [br] at hc15
    refine Run.skip ?_
    refine Run.seq ?_
    refine Run.seq ?_
    refine Run.region ?_
    refine RL.val (x_moveI rfl) ?_
    refine RL.val (x_eqI rfl rfl) ?_
    refine RL.nil ?_
    refine Run.cond rfl (fun hc22 => ?_) (fun hc22 => ?_)
    · try simp only [br] at hc22
      exact absurd hc22 hc15
    · try simp only [br] at hc22
      skip
      refine Run.skip ?_
      refine Run.seq ?_
      refine Run.region ?_
      refine RL.val (x_moveI rfl) ?_
      refine RL.val (x_assignI rfl) ?_
      refine RL.nil ?_
      refine Run.ret1 (v := .int .i64 (appE room pl freshN xs)) Tryz.func84 rfl rfl ?_
      have hEq : swapP room pl xs n = (appE room pl freshN xs, appL room pl freshN xs) := by rw [swapP, if_neg hc15]
      rw [hEq]
      exact ⟨_, rfl, F_1, rfl, hD_3, movedS_foot pg_7, K0⟩

set_option maxRecDepth 100000 in
set_option maxHeartbeats 4000000 in
theorem cut__ (b d : Nat) (F : Nat → Prop) (room : Int) (pl : List PF) (a : Option Addr) (xs : List UInt8) (c : Nat) (a2 : Option Addr) (ls : List Int) (c2 : Nat) (i : Nat) (n : Int) (w : World) (hb : Blk w b [.pointer (some ⟨d, 0, none⟩)] 122) (hD : DiskAt w d F room pl) (hbd : ¬ F b) (hL : LaidOk w) (hFG : ∀ q, F q → 7 ≤ q) (hs : SlOf w a xs) (hdis : ∀ x, a = some x → ¬ F x.block) (hl : xs.length ≤ 1073741824) (hs2 : SlOf w a2 ls) (hdis2 : ∀ x, a2 = some x → ¬ F x.block) (hl2 : ls.length ≤ 4294967295) (hok : SegsOk ls) (hall : ∀ m ∈ ls, hasL pl (nameS m) = true) (hx : ls[i]? = some n) :
    Calls Tryz.prog 186 #[.pointer (some ⟨b, 0, none⟩), .slice (a) (xs.length) (c), .slice (a2) (ls.length) (c2), .int .i64 (((i : Nat) : Int))] w (Ret (DStep d F room w (cutP room pl xs n (ls.drop (i + 1))).1 (cutP room pl xs n (ls.drop (i + 1))).2)) := by
  have hLs := hL.size
  have hil : i < ls.length := (List.getElem?_eq_some_iff.1 hx).1
  have hnm := nameS_may n
  refine calls_run (n := 54) Tryz.func186 rfl rfl rfl ?_
  refine Run.seq ?_
  refine Run.region ?_
  refine RL.val (x_assignI rfl) ?_
  refine RL.nil ?_
  refine Run.seq ?_
  refine Run.region ?_
  refine RL.val (x_assignI rfl) ?_
  refine RL.nil ?_
  refine Run.seq ?_
  refine Run.seq ?_
  refine Run.region ?_
  refine RL.val (x_moveSl rfl) ?_
  refine RL.val (x_lenSl Tryz.underlying74 rfl) ?_
  refine RL.val (x_eqI rfl rfl) ?_
  refine RL.nil ?_
  refine Run.cond rfl (fun hc13 => ?_) (fun hc13 => ?_)
  · try simp only [br] at hc13
    obtain ⟨b_3, o_4, x_7, hx_8, ha_5, hc_6⟩ := hs2.el (i := i) (by first | omega | (simp only [List.length_set]; omega))
    have hc_6_lt := hc_6.lt
    obtain rfl : n = x_7 := Option.some.inj (hx.symm.trans hx_8)
    refine Run.drawT [] (m := 11) (by kernel_rfl) rfl ?_
    intro w_1 K_2
    replace hb := hb.ext K_2
    replace hD := hD.ext K_2
    replace hL := hL.ext K_2
    replace hc_6 := hc_6.ext K_2
    have K0 := (K_2 : Ext w _).to (S := F)
    refine ⟨fun w' => Blk w' b [.pointer (some ⟨d, 0, none⟩)] 122 ∧ Cl w' b_3 (o_4 + i * 1) (cellsOf n) ∧ True, ?_⟩
    refine RT.takeP (v := .pointer (some ⟨b, 0, none⟩)) 0 rfl (by kernel_rfl) (.inr ⟨hb, hc_6, trivial⟩) (fun _ => (x_moveP rfl)) ?_
    refine RT.takeP (v := .pointer (some ⟨b, 0, none⟩)) 1 rfl (by kernel_rfl) (.inr ⟨hb, hc_6, trivial⟩) (fun _ => (x_nilCheck rfl)) ?_
    refine RT.takeP (v := .pointer (some ⟨b, 0, none⟩)) 2 rfl (by kernel_rfl) (.inr ⟨hb, hc_6, trivial⟩) (fun _ => (x_fld (o' := 0) Tryz.underlying120 rfl ty62 rfl rfl rfl)) ?_
    refine RT.take (v := .pointer (some ⟨d, 0, none⟩)) 3 rfl (by kernel_rfl) ⟨hb, hc_6, trivial⟩ (by rintro _ ⟨hb, hc_6, -⟩; exact (x_ld (v := .pointer (some ⟨d, 0, none⟩)) ty62 rfl rfl (hb.cl.field (i := 0) rfl))) ?_
    refine RT.takeP (v := .slice (a2) (ls.length) (c2)) 4 rfl (by kernel_rfl) (.inr ⟨hb, hc_6, trivial⟩) (fun _ => (x_moveSl rfl)) ?_
    refine RT.takeP (v := .int .i64 (((i : Nat) : Int))) 5 rfl (by kernel_rfl) (.inr ⟨hb, hc_6, trivial⟩) (fun _ => (x_moveI rfl)) ?_
    refine RT.takeP (v := .pointer (some ⟨b_3, o_4 + i * 1, none⟩)) 6 rfl (by kernel_rfl) (.inr ⟨hb, hc_6, trivial⟩) (fun _ => (x_idxN Tryz.underlying130 ty3 rfl rfl ha_5 (by first | omega | (simp only [List.length_set]; omega)))) ?_
    refine RT.take (v := .int .i64 (n)) 7 rfl (by kernel_rfl) ⟨hb, hc_6, trivial⟩ (by rintro _ ⟨hb, hc_6, -⟩; exact (x_ldV (v := .int .i64 (n)) (y := n) ty3 rfl hc_6 rfl)) ?_
    refine RT.st 8 rfl (by kernel_rfl) rfl <| St1.call (vals := [.int .i64 (n)]) en66 rfl (segName_ n _ hL) ?_
    rintro _ w_9 ⟨rfl, K_10⟩
    replace hb := hb.ext K_10
    replace hD := hD.ext K_10
    replace hL := hL.ext K_10
    replace hc_6 := hc_6.ext K_10
    replace K0 := K0.ext K_10
    refine ⟨.inr ⟨hb, hc_6, trivial⟩, ?_⟩
    refine RT.st 9 rfl (by kernel_rfl) rfl <| St1.call (vals := [.pointer (some ⟨d, 0, none⟩), .string (nameS n)]) en85 rfl (dcast (removeD hD (nameS n) (by first | omega | decide)) (look_has (name_may (hok.low n (List.mem_of_getElem? hx)).1 (hok.low n (List.mem_of_getElem? hx)).2) (hall n (List.mem_of_getElem? hx))) rfl) ?_
    rintro _ w_12 ⟨F_11, rfl, hD_13, hm_14, K_15⟩
    have pr_16 : ¬ F_11 b := hm_14.not hbd hb.lt
    have pg_17 : ∀ q_, F_11 q_ → q_ < w.heap.size → F q_ := hm_14.inS (fun q_ h_ _ => h_) K0.size
    have pG_18 : ∀ q_, F_11 q_ → 7 ≤ q_ := fun q_ h_ => (hm_14 q_ h_).elim (hFG q_) (fun h2_ => Nat.le_trans hLs (Nat.le_trans K0.size h2_))
    replace hb := hb.keep K_15 hbd
    replace hL := hL.keep K_15 hFG
    replace hc_6 := hc_6.keep K_15 (fun h => hdis2 _ ha_5 ((fun q_ h_ _ => h_) _ h hc_6_lt))
    replace K0 := K0.trans K_15 (fun x hlt hx => (fun q_ h_ _ => h_) x hx hlt)
    clear hm_14
    refine ⟨.inr ⟨hb, hc_6, trivial⟩, ?_⟩
    refine RT.takeP (v := .int .i64 (0)) 10 rfl (by kernel_rfl) (.inr ⟨hb, hc_6, trivial⟩) (fun _ => (x_assignI rfl)) ?_
    refine RT.done (by kernel_rfl) ?_
    refine Run.seq ?_
    refine Run.seq ?_
    refine Run.region ?_
    refine RL.val (x_moveSl rfl) ?_
    refine RL.val (x_lenSl Tryz.underlying130 rfl) ?_
    refine RL.val (litI (c := ((ls.length - 1 : Nat) : Int)) (x_sub rfl rfl (by omega) (by omega)) (by omega)) ?_
    refine RL.val (x_assignI rfl) ?_
    refine RL.nil ?_
    refine Run.block ?_
    refine Run.loop (ι := Nat) (fun k ρ' w' => ∃ Fk : Nat → Prop, Holds ρ' [(0, .pointer (some ⟨b, 0, none⟩)), (2, .slice (a2) (ls.length) (c2)), (3, .int .i64 (((i : Nat) : Int))), (9, .int .i64 (0)), (10, .int .i64 (((k : Nat) : Int)))] ∧ Keeps F w w' ∧ (Blk w' b [.pointer (some ⟨d, 0, none⟩)] 122) ∧ (LaidOk w') ∧ (DiskAt w' d Fk room (remsL (remL pl (nameS n)) (ls.drop (k + 1)))) ∧ (¬ Fk b) ∧ (∀ q_, Fk q_ → q_ < w.heap.size → F q_) ∧ (∀ q_, Fk q_ → 7 ≤ q_) ∧ (i ≤ k) ∧ (k < ls.length)) (fun k => k) (ls.length - 1) ?_ ?_
    · rw [show remsL (remL pl (nameS n)) (ls.drop (ls.length - 1 + 1)) = (remL pl (nameS n)) by rw [List.drop_eq_nil_of_le (by omega), remsL_nil]]
      refine ⟨_, ⟨rfl, rfl, rfl, rfl, rfl, trivial⟩, K0, hb, hL, hD_13, pr_16, pg_17, pG_18, ?_, ?_⟩
      · omega
      · omega
    clear hb hD_13
    clear K0
    rintro k ρ_25 w_19 ⟨Fk, hH_20, K0, hb, hL, hO_21, pr_22, pr_23, pr_24, hik, hkl⟩ ih1
    obtain ⟨ρ₀, rfl⟩ := hH_20.ex
    clear hH_20
    refine Run.seq ?_
    refine Run.seq ?_
    refine Run.region ?_
    refine RL.val (x_moveI rfl) ?_
    refine RL.val (x_moveI rfl) ?_
    refine RL.val (x_gtI rfl rfl) ?_
    refine RL.val (x_moveB rfl) ?_
    refine RL.gval (wantedT rfl rfl rfl rfl) (fun hg => (x_moveI rfl)) ?_
    refine RL.gval (wantedT rfl rfl rfl rfl) (fun hg => (litT (x_eqI (gvr hg) rfl) (by decide))) ?_
    refine RL.val (x_and rfl rfl rfl) ?_
    refine RL.nil ?_
    refine Run.cond rfl (fun hc40 => ?_) (fun hc40 => ?_)
    · try simp only [br] at hc40
      obtain ⟨m, hm⟩ : ∃ m, ls[k]? = some m := ⟨_, List.getElem?_eq_getElem hkl⟩
      have hhas := has_rems (pl := (remL pl (nameS n))) (ns := ls.drop (k + 1)) (has_rem (hall m (List.mem_of_getElem? hm)) (hok.ne hx hm (by omega))) (fun j hj => by
        obtain ⟨q, hq⟩ := List.getElem?_of_mem hj
        rw [List.getElem?_drop] at hq
        exact fun e => hok.ne hm hq (by omega) e.symm)
      refine Run.skip ?_
      refine Run.seq ?_
      refine Run.block ?_
      have hnm := nameS_may m
      obtain ⟨b_28, o_29, x_32, hx_33, ha_30, hc_31⟩ := hs2.el (i := k) (by first | omega | (simp only [List.length_set]; omega))
      have hc_31_lt := hc_31.lt
      replace hc_31 := hc_31.keep K0 (hdis2 _ ha_30)
      obtain rfl : m = x_32 := Option.some.inj (hm.symm.trans hx_33)
      refine Run.drawT [] (m := 11) (by kernel_rfl) rfl ?_
      intro w_26 K_27
      replace hb := hb.ext K_27
      replace hL := hL.ext K_27
      replace hO_21 := hO_21.ext K_27
      replace hc_31 := hc_31.ext K_27
      replace K0 := K0.ext K_27
      refine ⟨fun w' => Blk w' b [.pointer (some ⟨d, 0, none⟩)] 122 ∧ Cl w' b_28 (o_29 + k * 1) (cellsOf m) ∧ True, ?_⟩
      refine RT.takeP (v := .pointer (some ⟨b, 0, none⟩)) 0 rfl (by kernel_rfl) (.inr ⟨hb, hc_31, trivial⟩) (fun _ => (x_moveP rfl)) ?_
      refine RT.takeP (v := .pointer (some ⟨b, 0, none⟩)) 1 rfl (by kernel_rfl) (.inr ⟨hb, hc_31, trivial⟩) (fun _ => (x_nilCheck rfl)) ?_
      refine RT.takeP (v := .pointer (some ⟨b, 0, none⟩)) 2 rfl (by kernel_rfl) (.inr ⟨hb, hc_31, trivial⟩) (fun _ => (x_fld (o' := 0) Tryz.underlying120 rfl ty62 rfl rfl rfl)) ?_
      refine RT.take (v := .pointer (some ⟨d, 0, none⟩)) 3 rfl (by kernel_rfl) ⟨hb, hc_31, trivial⟩ (by rintro _ ⟨hb, hc_31, -⟩; exact (x_ld (v := .pointer (some ⟨d, 0, none⟩)) ty62 rfl rfl (hb.cl.field (i := 0) rfl))) ?_
      refine RT.takeP (v := .slice (a2) (ls.length) (c2)) 4 rfl (by kernel_rfl) (.inr ⟨hb, hc_31, trivial⟩) (fun _ => (x_moveSl rfl)) ?_
      refine RT.takeP (v := .int .i64 (((k : Nat) : Int))) 5 rfl (by kernel_rfl) (.inr ⟨hb, hc_31, trivial⟩) (fun _ => (x_moveI rfl)) ?_
      refine RT.takeP (v := .pointer (some ⟨b_28, o_29 + k * 1, none⟩)) 6 rfl (by kernel_rfl) (.inr ⟨hb, hc_31, trivial⟩) (fun _ => (x_idxN Tryz.underlying130 ty3 rfl rfl ha_30 (by first | omega | (simp only [List.length_set]; omega)))) ?_
      refine RT.take (v := .int .i64 (m)) 7 rfl (by kernel_rfl) ⟨hb, hc_31, trivial⟩ (by rintro _ ⟨hb, hc_31, -⟩; exact (x_ldV (v := .int .i64 (m)) (y := m) ty3 rfl hc_31 rfl)) ?_
      refine RT.st 8 rfl (by kernel_rfl) rfl <| St1.call (vals := [.int .i64 (m)]) en66 rfl (segName_ m _ hL) ?_
      rintro _ w_34 ⟨rfl, K_35⟩
      replace hb := hb.ext K_35
      replace hL := hL.ext K_35
      replace hO_21 := hO_21.ext K_35
      replace hc_31 := hc_31.ext K_35
      replace K0 := K0.ext K_35
      refine ⟨.inr ⟨hb, hc_31, trivial⟩, ?_⟩
      refine RT.st 9 rfl (by kernel_rfl) rfl <| St1.call (vals := [.pointer (some ⟨d, 0, none⟩), .string (nameS m)]) en85 rfl (dcast (removeD hO_21 (nameS m) (by first | omega | decide)) (look_has (name_may (hok.low m (List.mem_of_getElem? hm)).1 (hok.low m (List.mem_of_getElem? hm)).2) hhas) rfl) ?_
      rintro _ w_37 ⟨F_36, rfl, hD_38, hm_39, K_40⟩
      have pr_41 : ¬ F_36 b := hm_39.not pr_22 hb.lt
      have pg_42 : ∀ q_, F_36 q_ → q_ < w.heap.size → F q_ := hm_39.inS pr_23 K0.size
      have pG_43 : ∀ q_, F_36 q_ → 7 ≤ q_ := fun q_ h_ => (hm_39 q_ h_).elim (pr_24 q_) (fun h2_ => Nat.le_trans hLs (Nat.le_trans K0.size h2_))
      replace hb := hb.keep K_40 pr_22
      replace hL := hL.keep K_40 pr_24
      replace hc_31 := hc_31.keep K_40 (fun h => hdis2 _ ha_30 (pr_23 _ h hc_31_lt))
      replace K0 := K0.trans K_40 (fun x hlt hx => pr_23 x hx hlt)
      clear hm_39
      refine ⟨.inr ⟨hb, hc_31, trivial⟩, ?_⟩
      refine RT.takeP (v := .int .i64 (0)) 10 rfl (by kernel_rfl) (.inr ⟨hb, hc_31, trivial⟩) (fun _ => (x_assignI rfl)) ?_
      refine RT.done (by kernel_rfl) ?_
      refine Run.inBlock ?_
      refine Run.region ?_
      refine RL.val (x_moveI rfl) ?_
      refine RL.val (litI (c := ((k - 1 : Nat) : Int)) (x_sub rfl rfl (by omega) (by omega)) (by omega)) ?_
      refine RL.val (x_assignI rfl) ?_
      refine RL.nil ?_
      have e : remsL (remL pl (nameS n)) (ls.drop (k - 1 + 1)) = remL (remsL (remL pl (nameS n)) (ls.drop (k + 1))) (nameS m) := by rw [show k - 1 + 1 = k by omega, drop_at hm, remsL_cons]
      refine ih1 (k - 1) _ _ ?_ (by omega)
      rw [e]
      refine ⟨_, ⟨rfl, rfl, rfl, rfl, rfl, trivial⟩, K0, hb, hL, hD_38, pr_41, pg_42, pG_43, ?_, ?_⟩
      · omega
      · omega
    · try simp only [br] at hc40
      skip
      refine Run.exit rfl ?_
      refine Run.seq ?_
      refine Run.region ?_
      refine RL.val (x_moveI rfl) ?_
      refine RL.val (x_assignI rfl) ?_
      refine RL.nil ?_
      refine Run.ret1 (v := .int .i64 (0)) Tryz.func186 rfl rfl ?_
      have hki : k = i := by simp at hc40; omega
      subst hki
      have hEq : cutP room pl xs n (ls.drop (k + 1)) = _ := cut_rem (List.eq_nil_of_length_eq_zero (by omega))
      rw [hEq]
      exact ⟨_, rfl, Fk, rfl, hO_21, movedS_foot pr_23, K0⟩
  · try simp only [br] at hc13
    refine Run.region ?_
    refine RL.val (x_moveP rfl) ?_
    refine RL.val (x_moveSl rfl) ?_
    refine RL.val (x_moveSl rfl) ?_
    refine RL.val (x_moveI rfl) ?_
    obtain ⟨b_44, o_45, x_48, hx_49, ha_46, hc_47⟩ := hs2.el (i := i) (by first | omega | (simp only [List.length_set]; omega))
    have hc_47_lt := hc_47.lt
    obtain rfl : n = x_48 := Option.some.inj (hx.symm.trans hx_49)
    refine RL.val (x_idxN Tryz.underlying130 ty3 rfl rfl ha_46 (by first | omega | (simp only [List.length_set]; omega))) ?_
    refine RL.val (x_ldV (v := .int .i64 (n)) (y := n) ty3 rfl hc_47 rfl) ?_
    refine RL.st rfl <| St1.call (vals := [.pointer (some ⟨b, 0, none⟩), .slice (a) (xs.length) (c), .int .i64 (n)]) en84 rfl (swap_ _ _ _ _ _ _ xs _ n _ hb hD hbd hL hFG hs (by assumption) (by omega)) ?_
    rintro _ w_51 ⟨F_50, rfl, hD_52, hm_53, K_54⟩
    have pr_55 : ¬ F_50 b := hm_53.not hbd hb.lt
    have pg_56 : ∀ q_, F_50 q_ → q_ < w.heap.size → F q_ := hm_53.inS (fun q_ h_ _ => h_) (Nat.le_refl _)
    have pG_57 : ∀ q_, F_50 q_ → 7 ≤ q_ := fun q_ h_ => (hm_53 q_ h_).elim (hFG q_) (fun h2_ => Nat.le_trans hLs (Nat.le_trans (Nat.le_refl _) h2_))
    replace hb := hb.keep K_54 hbd
    replace hL := hL.keep K_54 hFG
    replace hc_47 := hc_47.keep K_54 (fun h => hdis2 _ ha_46 ((fun q_ h_ _ => h_) _ h hc_47_lt))
    have K0 := (Keeps.refl F w).trans K_54 (fun x hlt hx => (fun q_ h_ _ => h_) x hx hlt)
    clear hm_53
    refine RL.val (x_assignI rfl) ?_
    refine RL.nil ?_
    refine Run.seq ?_
    refine Run.seq ?_
    by_cases hse : (swapP room pl xs n).1 = 0
    · rw [hse]
      refine Run.region ?_
      refine RL.val (x_moveSl rfl) ?_
      refine RL.val (x_lenSl Tryz.underlying130 rfl) ?_
      refine RL.val (litI (c := ((ls.length - 1 : Nat) : Int)) (x_sub rfl rfl (by omega) (by omega)) (by omega)) ?_
      refine RL.val (x_assignI rfl) ?_
      refine RL.nil ?_
      refine Run.block ?_
      refine Run.loop (ι := Nat) (fun k ρ' w' => ∃ Fk : Nat → Prop, Holds ρ' [(0, .pointer (some ⟨b, 0, none⟩)), (2, .slice (a2) (ls.length) (c2)), (3, .int .i64 (((i : Nat) : Int))), (9, .int .i64 (0)), (10, .int .i64 (((k : Nat) : Int)))] ∧ Keeps F w w' ∧ (Blk w' b [.pointer (some ⟨d, 0, none⟩)] 122) ∧ (LaidOk w') ∧ (DiskAt w' d Fk room (remsL (swapP room pl xs n).2 (ls.drop (k + 1)))) ∧ (¬ Fk b) ∧ (∀ q_, Fk q_ → q_ < w.heap.size → F q_) ∧ (∀ q_, Fk q_ → 7 ≤ q_) ∧ (i ≤ k) ∧ (k < ls.length)) (fun k => k) (ls.length - 1) ?_ ?_
      · rw [show remsL (swapP room pl xs n).2 (ls.drop (ls.length - 1 + 1)) = (swapP room pl xs n).2 by rw [List.drop_eq_nil_of_le (by omega), remsL_nil]]
        refine ⟨_, ⟨rfl, rfl, rfl, rfl, rfl, trivial⟩, K0, hb, hL, hD_52, pr_55, pg_56, pG_57, ?_, ?_⟩
        · omega
        · omega
      clear hb hD_52
      clear K0
      rintro k ρ_64 w_58 ⟨Fk, hH_59, K0, hb, hL, hO_60, pr_61, pr_62, pr_63, hik, hkl⟩ ih2
      obtain ⟨ρ₀, rfl⟩ := hH_59.ex
      clear hH_59
      refine Run.seq ?_
      refine Run.seq ?_
      refine Run.region ?_
      refine RL.val (x_moveI rfl) ?_
      refine RL.val (x_moveI rfl) ?_
      refine RL.val (x_gtI rfl rfl) ?_
      refine RL.val (x_moveB rfl) ?_
      refine RL.gval (wantedT rfl rfl rfl rfl) (fun hg => (x_moveI rfl)) ?_
      refine RL.gval (wantedT rfl rfl rfl rfl) (fun hg => (litT (x_eqI (gvr hg) rfl) (by decide))) ?_
      refine RL.val (x_and rfl rfl rfl) ?_
      refine RL.nil ?_
      refine Run.cond rfl (fun hc40 => ?_) (fun hc40 => ?_)
      · try simp only [br] at hc40
        obtain ⟨m, hm⟩ : ∃ m, ls[k]? = some m := ⟨_, List.getElem?_eq_getElem hkl⟩
        have hhas := has_rems (pl := (swapP room pl xs n).2) (ns := ls.drop (k + 1)) (has_swap (hall m (List.mem_of_getElem? hm)) (fresh_not m) (hok.ne hx hm (by omega))) (fun j hj => by
          obtain ⟨q, hq⟩ := List.getElem?_of_mem hj
          rw [List.getElem?_drop] at hq
          exact fun e => hok.ne hm hq (by omega) e.symm)
        refine Run.skip ?_
        refine Run.seq ?_
        refine Run.block ?_
        have hnm := nameS_may m
        obtain ⟨b_67, o_68, x_71, hx_72, ha_69, hc_70⟩ := hs2.el (i := k) (by first | omega | (simp only [List.length_set]; omega))
        have hc_70_lt := hc_70.lt
        replace hc_70 := hc_70.keep K0 (hdis2 _ ha_69)
        obtain rfl : m = x_71 := Option.some.inj (hm.symm.trans hx_72)
        refine Run.drawT [] (m := 11) (by kernel_rfl) rfl ?_
        intro w_65 K_66
        replace hb := hb.ext K_66
        replace hL := hL.ext K_66
        replace hO_60 := hO_60.ext K_66
        replace hc_70 := hc_70.ext K_66
        replace K0 := K0.ext K_66
        refine ⟨fun w' => Blk w' b [.pointer (some ⟨d, 0, none⟩)] 122 ∧ Cl w' b_67 (o_68 + k * 1) (cellsOf m) ∧ True, ?_⟩
        refine RT.takeP (v := .pointer (some ⟨b, 0, none⟩)) 0 rfl (by kernel_rfl) (.inr ⟨hb, hc_70, trivial⟩) (fun _ => (x_moveP rfl)) ?_
        refine RT.takeP (v := .pointer (some ⟨b, 0, none⟩)) 1 rfl (by kernel_rfl) (.inr ⟨hb, hc_70, trivial⟩) (fun _ => (x_nilCheck rfl)) ?_
        refine RT.takeP (v := .pointer (some ⟨b, 0, none⟩)) 2 rfl (by kernel_rfl) (.inr ⟨hb, hc_70, trivial⟩) (fun _ => (x_fld (o' := 0) Tryz.underlying120 rfl ty62 rfl rfl rfl)) ?_
        refine RT.take (v := .pointer (some ⟨d, 0, none⟩)) 3 rfl (by kernel_rfl) ⟨hb, hc_70, trivial⟩ (by rintro _ ⟨hb, hc_70, -⟩; exact (x_ld (v := .pointer (some ⟨d, 0, none⟩)) ty62 rfl rfl (hb.cl.field (i := 0) rfl))) ?_
        refine RT.takeP (v := .slice (a2) (ls.length) (c2)) 4 rfl (by kernel_rfl) (.inr ⟨hb, hc_70, trivial⟩) (fun _ => (x_moveSl rfl)) ?_
        refine RT.takeP (v := .int .i64 (((k : Nat) : Int))) 5 rfl (by kernel_rfl) (.inr ⟨hb, hc_70, trivial⟩) (fun _ => (x_moveI rfl)) ?_
        refine RT.takeP (v := .pointer (some ⟨b_67, o_68 + k * 1, none⟩)) 6 rfl (by kernel_rfl) (.inr ⟨hb, hc_70, trivial⟩) (fun _ => (x_idxN Tryz.underlying130 ty3 rfl rfl ha_69 (by first | omega | (simp only [List.length_set]; omega)))) ?_
        refine RT.take (v := .int .i64 (m)) 7 rfl (by kernel_rfl) ⟨hb, hc_70, trivial⟩ (by rintro _ ⟨hb, hc_70, -⟩; exact (x_ldV (v := .int .i64 (m)) (y := m) ty3 rfl hc_70 rfl)) ?_
        refine RT.st 8 rfl (by kernel_rfl) rfl <| St1.call (vals := [.int .i64 (m)]) en66 rfl (segName_ m _ hL) ?_
        rintro _ w_73 ⟨rfl, K_74⟩
        replace hb := hb.ext K_74
        replace hL := hL.ext K_74
        replace hO_60 := hO_60.ext K_74
        replace hc_70 := hc_70.ext K_74
        replace K0 := K0.ext K_74
        refine ⟨.inr ⟨hb, hc_70, trivial⟩, ?_⟩
        refine RT.st 9 rfl (by kernel_rfl) rfl <| St1.call (vals := [.pointer (some ⟨d, 0, none⟩), .string (nameS m)]) en85 rfl (dcast (removeD hO_60 (nameS m) (by first | omega | decide)) (look_has (name_may (hok.low m (List.mem_of_getElem? hm)).1 (hok.low m (List.mem_of_getElem? hm)).2) hhas) rfl) ?_
        rintro _ w_76 ⟨F_75, rfl, hD_77, hm_78, K_79⟩
        have pr_80 : ¬ F_75 b := hm_78.not pr_61 hb.lt
        have pg_81 : ∀ q_, F_75 q_ → q_ < w.heap.size → F q_ := hm_78.inS pr_62 K0.size
        have pG_82 : ∀ q_, F_75 q_ → 7 ≤ q_ := fun q_ h_ => (hm_78 q_ h_).elim (pr_63 q_) (fun h2_ => Nat.le_trans hLs (Nat.le_trans K0.size h2_))
        replace hb := hb.keep K_79 pr_61
        replace hL := hL.keep K_79 pr_63
        replace hc_70 := hc_70.keep K_79 (fun h => hdis2 _ ha_69 (pr_62 _ h hc_70_lt))
        replace K0 := K0.trans K_79 (fun x hlt hx => pr_62 x hx hlt)
        clear hm_78
        refine ⟨.inr ⟨hb, hc_70, trivial⟩, ?_⟩
        refine RT.takeP (v := .int .i64 (0)) 10 rfl (by kernel_rfl) (.inr ⟨hb, hc_70, trivial⟩) (fun _ => (x_assignI rfl)) ?_
        refine RT.done (by kernel_rfl) ?_
        refine Run.inBlock ?_
        refine Run.region ?_
        refine RL.val (x_moveI rfl) ?_
        refine RL.val (litI (c := ((k - 1 : Nat) : Int)) (x_sub rfl rfl (by omega) (by omega)) (by omega)) ?_
        refine RL.val (x_assignI rfl) ?_
        refine RL.nil ?_
        have e : remsL (swapP room pl xs n).2 (ls.drop (k - 1 + 1)) = remL (remsL (swapP room pl xs n).2 (ls.drop (k + 1))) (nameS m) := by rw [show k - 1 + 1 = k by omega, drop_at hm, remsL_cons]
        refine ih2 (k - 1) _ _ ?_ (by omega)
        rw [e]
        refine ⟨_, ⟨rfl, rfl, rfl, rfl, rfl, trivial⟩, K0, hb, hL, hD_77, pr_80, pg_81, pG_82, ?_, ?_⟩
        · omega
        · omega
      · try simp only [br] at hc40
        skip
        refine Run.exit rfl ?_
        refine Run.seq ?_
        refine Run.region ?_
        refine RL.val (x_moveI rfl) ?_
        refine RL.val (x_assignI rfl) ?_
        refine RL.nil ?_
        refine Run.ret1 (v := .int .i64 (0)) Tryz.func186 rfl rfl ?_
        have hki : k = i := by simp at hc40; omega
        subst hki
        have hEq : cutP room pl xs n (ls.drop (k + 1)) = _ := cut_swap (ne_of_len (by omega)) hse
        rw [hEq]
        exact ⟨_, rfl, Fk, rfl, hO_60, movedS_foot pr_62, K0⟩
    · refine Run.region ?_
      refine RL.val (x_moveSl rfl) ?_
      refine RL.val (x_lenSl Tryz.underlying130 rfl) ?_
      refine RL.val (litI (c := ((ls.length - 1 : Nat) : Int)) (x_sub rfl rfl (by omega) (by omega)) (by omega)) ?_
      refine RL.val (x_assignI rfl) ?_
      refine RL.nil ?_
      refine Run.block ?_
      refine Run.unloop ?_
      refine Run.seq ?_
      refine Run.seq ?_
      refine Run.region ?_
      refine RL.val (x_moveI rfl) ?_
      refine RL.val (x_moveI rfl) ?_
      refine RL.val (x_gtI rfl rfl) ?_
      refine RL.val (x_moveB rfl) ?_
      refine RL.gval (wantedT rfl rfl rfl rfl) (fun hg => (x_moveI rfl)) ?_
      refine RL.gval (wantedT rfl rfl rfl rfl) (fun hg => (x_eqI (gvr hg) rfl)) ?_
      refine RL.val (x_and rfl rfl rfl) ?_
      refine RL.nil ?_
      refine Run.cond rfl (fun hc40 => ?_) (fun hc40 => ?_)
      · try simp only [br] at hc40
        exact absurd hc40.2 hse
      · try simp only [br] at hc40
        skip
        refine Run.exit rfl ?_
        refine Run.seq ?_
        refine Run.region ?_
        refine RL.val (x_moveI rfl) ?_
        refine RL.val (x_assignI rfl) ?_
        refine RL.nil ?_
        refine Run.ret1 (v := .int .i64 ((swapP room pl xs n).1)) Tryz.func186 rfl rfl ?_
        have hEq := cut_bad (room := room) (pl := pl) (n := n) (r := ls.drop (i + 1)) (bs := xs) (ne_of_len (by omega)) hse
        rw [hEq]
        exact ⟨_, rfl, F_50, rfl, hD_52, movedS_foot pg_56, K0⟩

end Go.Proofs.YtnphndfbgdkgbaaGreatDoor
