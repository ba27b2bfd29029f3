/-
  The laws of both disks: calls.
-/
import Derived.Test.YtambibdkanpmaaaRows
import Derived.Test.YtambibdkanpmaaaDu
namespace Go.Proofs.Ytambibdkanpmaaa
attribute [local irreducible] St1 RL RA RT RT1 Run

theorem read_len {room : Int} {pl : List PF} (h : PLOk room pl) (n : ByteArray) : (readB pl n).length ≤ 16777216 := by
  have h1 := h.used
  have h2 := h.room
  unfold readB
  cases hl : lookL pl n with
  | none => simp
  | some f => have := usedL_mem (lookL_some hl).1; simp only [Option.map_some, Option.getD_some]; omega

theorem en47 : Enters Try.prog 47 := enters_of Try.func47 rfl (by kernel_rfl)
theorem en52 : Enters Try.prog 52 := enters_of Try.func52 rfl (by kernel_rfl)
theorem en53 : Enters Try.prog 53 := enters_of Try.func53 rfl (by kernel_rfl)
theorem en54 : Enters Try.prog 54 := enters_of Try.func54 rfl (by kernel_rfl)
theorem en55 : Enters Try.prog 55 := enters_of Try.func55 rfl (by kernel_rfl)
theorem en56 : Enters Try.prog 56 := enters_of Try.func56 rfl (by kernel_rfl)
theorem en57 : Enters Try.prog 57 := enters_of Try.func57 rfl (by kernel_rfl)
theorem en58 : Enters Try.prog 58 := enters_of Try.func58 rfl (by kernel_rfl)

set_option maxRecDepth 100000 in
set_option maxHeartbeats 4000000 in
theorem calls_ (d : Nat) (F1 : Nat → Prop) (x : Nat) (F2 : Nat → Prop) (room : Int) (pl : List PF) (o : DoC) (b : List UInt8) (pts : List PTear) (ab : Option Addr) (cb : Nat) (at1 : Option Addr) (ts1 : List TearC) (ct : Nat) (w0 w : World) (hD : DiskAt w d F1 room pl) (hR : RefAt w x F2 room pl) (hap : ∀ q, F1 q → ¬ F2 q) (h0 : DoAt w0 o b pts) (k0 : Ext w0 w) (hN : ∀ q, F1 q ∨ F2 q → w0.heap.size ≤ q) (hob : SlOf w ab b) (hdb : ∀ q, ab = some q → ¬ (F1 q.block ∨ F2 q.block)) (hot : SlOf w at1 ts1) (hdt : ∀ q, at1 = some q → ts1 ≠ [] → ¬ (F1 q.block ∨ F2 q.block)) (ht1 : TearsAt w ts1 pts) :
    Calls Try.prog 43 #[.pointer (some ⟨d, 0, none⟩), .pointer (some ⟨x, 0, none⟩), .agg #[.int .i64 ((o).op), .string ((o).name), .string ((o).other), .slice ((o).bytes.a) ((o).bytes.len) ((o).bytes.cap), .slice ((o).tears.a) ((o).tears.len) ((o).tears.cap)], .slice (ab) (b.length) (cb), .slice (at1) (ts1.length) (ct)] w (Ret (fun v w' => v = .bool true ∧ ∃ F1' F2', DiskAt w' d F1' room (stepX room pl ⟨o.op, o.name, o.other, b, pts⟩) ∧ RefAt w' x F2' room (stepX room pl ⟨o.op, o.name, o.other, b, pts⟩) ∧ MovedS w F1 F1' ∧ MovedS w F2 F2' ∧ (∀ q, F1' q → ¬ F2' q) ∧ Keeps (fun q => F1 q ∨ F2 q) w w')) := by
  obtain ⟨ts0, htl0, hts0, htt0⟩ := h0.ts
  obtain ⟨hz1, hz2, hz3, hz4⟩ := h0.size
  have htln := htt0.len
  have htln1 := ht1.len
  have hopr := opc_range o.op
  refine calls_run (n := 113) Try.func43 rfl rfl rfl ?_
  refine Run.seq ?_
  have hNn_hD : ∀ q_, F1 q_ → w0.heap.size ≤ q_ := fun q_ h_ => hN q_ (Or.inl h_)
  have hNn_hR : ∀ q_, F2 q_ → w0.heap.size ≤ q_ := fun q_ h_ => hN q_ (Or.inr h_)
  have hm1_hD := MovedS.refl w F1
  have hm2_hR := MovedS.refl w F2
  refine Run.region ?_
  refine RL.st rfl <| St1.box (v := .agg #[.int .i64 ((o).op), .string ((o).name), .string ((o).other), .slice ((o).bytes.a) ((o).bytes.len) ((o).bytes.cap), .slice ((o).tears.a) ((o).tears.len) ((o).tears.cap)]) rfl ?_
  intro b_1 w_2 hl_5 hb_4 K_3
  replace hb_4 : Blk w_2 b_1 [.int .i64 ((o).op), .string ((o).name), .string ((o).other), .slice ((o).bytes.a) ((o).bytes.len) ((o).bytes.cap), .slice ((o).tears.a) ((o).tears.len) ((o).tears.cap)] 34 := hb_4
  have pr_6 : ¬ F1 b_1 := fun h => absurd (hD.own_lt _ h) (by omega)
  have pr_7 : ¬ F2 b_1 := fun h => absurd (hR.own_lt _ h) (by omega)
  have : w.heap.size ≤ b_1 := hl_5
  clear hl_5
  replace hD := hD.ext K_3
  replace hR := hR.ext K_3
  replace ht1 := ht1.ext K_3
  have K0 := (K_3 : Ext w _).to (S := (fun q => F1 q ∨ F2 q))
  refine RL.val (x_assignB rfl) ?_
  refine RL.nil ?_
  refine Run.seq ?_
  refine Run.seq ?_
  refine Run.region ?_
  refine RL.val (x_fld (o' := 0) Try.underlying34 rfl ty3 rfl rfl rfl) ?_
  refine RL.val (x_ld (v := .int .i64 ((o).op)) ty3 rfl rfl (hb_4.cl.field (i := 0) rfl)) ?_
  refine RL.val (x_convI rfl ⟨_, Try.underlying3⟩ Try.underlying35) ?_
  refine RL.val (litI (c := opc o.op) (x_rem rfl rfl (by decide)) rfl) ?_
  refine RL.nil ?_
  refine Run.block ?_
  refine Run.seq ?_
  refine Run.seq ?_
  refine Run.region ?_
  refine RL.val (x_eqI rfl rfl) ?_
  refine RL.val (x_assignB rfl) ?_
  refine RL.nil ?_
  refine Run.cond rfl (fun hc19 => ?_) (fun hc19 => ?_)
  · try simp only [br] at hc19
    refine Run.skip ?_
    refine Run.cond rfl (fun hc19 => ?_) (fun hc19 => ?_)
    · try simp only [br] at hc19
      refine Run.seq ?_
      refine Run.drawT [] (m := 13) (by kernel_rfl) rfl ?_
      intro w_8 K_9
      replace hD := hD.ext K_9
      replace hR := hR.ext K_9
      replace ht1 := ht1.ext K_9
      replace hb_4 := hb_4.ext K_9
      replace K0 := K0.ext K_9
      refine ⟨fun w' => Blk w' b_1 [.int .i64 ((o).op), .string ((o).name), .string ((o).other), .slice ((o).bytes.a) ((o).bytes.len) ((o).bytes.cap), .slice ((o).tears.a) ((o).tears.len) ((o).tears.cap)] 34 ∧ True, ?_⟩
      refine RT.takeP (v := .pointer (some ⟨d, 0, none⟩)) 0 rfl (by kernel_rfl) (.inr ⟨hb_4, trivial⟩) (fun _ => (x_moveP rfl)) ?_
      refine RT.takeP (v := .pointer (some ⟨b_1, 1, none⟩)) 1 rfl (by kernel_rfl) (.inr ⟨hb_4, trivial⟩) (fun _ => (x_fld (o' := 1) Try.underlying34 rfl ty9 rfl rfl rfl)) ?_
      refine RT.take (v := .string ((o).name)) 2 rfl (by kernel_rfl) ⟨hb_4, trivial⟩ (by rintro _ ⟨hb_4, -⟩; exact (x_ld (v := .string ((o).name)) ty9 rfl rfl (hb_4.cl.field (i := 1) rfl))) ?_
      refine RT.takeP (v := .slice (ab) (b.length) (cb)) 3 rfl (by kernel_rfl) (.inr ⟨hb_4, trivial⟩) (fun _ => (x_moveSl rfl)) ?_
      refine RT.takeP (v := .pointer (some ⟨x, 0, none⟩)) 5 rfl (by kernel_rfl) (.inr ⟨hb_4, trivial⟩) (fun _ => (x_moveP rfl)) ?_
      refine RT.takeP (v := .pointer (some ⟨b_1, 1, none⟩)) 6 rfl (by kernel_rfl) (.inr ⟨hb_4, trivial⟩) (fun _ => (x_fld (o' := 1) Try.underlying34 rfl ty9 rfl rfl rfl)) ?_
      refine RT.take (v := .string ((o).name)) 7 rfl (by kernel_rfl) ⟨hb_4, trivial⟩ (by rintro _ ⟨hb_4, -⟩; exact (x_ld (v := .string ((o).name)) ty9 rfl rfl (hb_4.cl.field (i := 1) rfl))) ?_
      refine RT.takeP (v := .pointer (some ⟨b_1, 3, none⟩)) 8 rfl (by kernel_rfl) (.inr ⟨hb_4, trivial⟩) (fun _ => (x_fld (o' := 3) Try.underlying34 rfl ty26 rfl rfl rfl)) ?_
      refine RT.take (v := .slice (o.bytes.a) (b.length) (o.bytes.cap)) 9 rfl (by kernel_rfl) ⟨hb_4, trivial⟩ (by rintro _ ⟨hb_4, -⟩; exact (litSl (m' := b.length) (x_ld (v := .slice ((o).bytes.a) ((o).bytes.len) ((o).bytes.cap)) ty26 rfl rfl (hb_4.cl.field (i := 3) rfl)) h0.bl)) ?_
      refine RT.st 4 rfl (by kernel_rfl) rfl <| St1.call (vals := [.pointer (some ⟨d, 0, none⟩), .string ((o).name), .slice (ab) (b.length) (cb)]) en19 rfl (appendD hD ((o).name) _ _ _ (by first | omega | decide) (hob.keep K0 hdb) (fun x_ hx_ h_ => hdb x_ hx_ (Or.inl h_)) (by first | omega | decide)) ?_
      rintro _ w_11 ⟨F_10, rfl, hD_12, hm_13, K_14⟩
      have hm1_hD_12 : MovedS w F1 F_10 := hm1_hD.trans hm_13 K0.size
      have pr_15 : ∀ q_, F_10 q_ → ¬ F2 q_ := hm_13.apart hap hR.own_lt
      have pr_16 : ¬ F_10 b_1 := hm_13.not pr_6 hb_4.lt
      have pg_17 : ∀ q_, F_10 q_ → q_ < w.heap.size → (fun q => F1 q ∨ F2 q) q_ := hm_13.inS (fun q_ h_ _ => Or.inl h_) K0.size
      replace hR := hR.keepO K_14 (fun q_ h1 h2 => hap q_ h2 h1)
      replace hb_4 := hb_4.keep K_14 pr_6
      replace K0 := K0.trans K_14 (fun x hlt hx => (fun q_ h_ _ => Or.inl h_) x hx hlt)
      clear hm_13
      have hNn_hD_12 : ∀ q_, F_10 q_ → w0.heap.size ≤ q_ := fun q_ h_ => (hm1_hD_12 q_ h_).elim (fun y_ => hN q_ (Or.inl y_)) (fun y_ => Nat.le_trans k0.size y_)
      refine ⟨.inr ⟨hb_4, trivial⟩, ?_⟩
      refine RT.st 10 rfl (by kernel_rfl) rfl <| St1.call (vals := [.pointer (some ⟨x, 0, none⟩), .string ((o).name), .slice (o.bytes.a) (b.length) (o.bytes.cap)]) en52 rfl (appendRA hR ((o).name) _ _ _ (by first | omega | decide) (h0.bs.ext (k0.new K0 hN)) (far h0.bs (fun q_ h_ => hNn_hR q_ h_)) (by first | omega | decide)) ?_
      rintro _ w_19 ⟨F_18, rfl, hR_20, hm_21, K_22⟩
      have hm2_hR_20 : MovedS w F2 F_18 := hm2_hR.trans hm_21 K0.size
      have pr_23 : ¬ F_18 b_1 := hm_21.not pr_7 hb_4.lt
      have pr_24 : ∀ q_, F_18 q_ → ¬ F_10 q_ := hm_21.apart (fun q_ h1 h2 => pr_15 q_ h2 h1) hD_12.own_lt
      have pg_25 : ∀ q_, F_18 q_ → q_ < w.heap.size → (fun q => F1 q ∨ F2 q) q_ := hm_21.inS (fun q_ h_ _ => Or.inr h_) K0.size
      replace hb_4 := hb_4.keep K_22 pr_7
      replace hD_12 := hD_12.keepO K_22 pr_15
      replace K0 := K0.trans K_22 (fun x hlt hx => (fun q_ h_ _ => Or.inr h_) x hx hlt)
      clear hm_21
      have hNn_hR_20 : ∀ q_, F_18 q_ → w0.heap.size ≤ q_ := fun q_ h_ => (hm2_hR_20 q_ h_).elim (fun y_ => hN q_ (Or.inr y_)) (fun y_ => Nat.le_trans k0.size y_)
      refine ⟨.inr ⟨hb_4, trivial⟩, ?_⟩
      refine RT.takeP (v := .bool ((appE room pl ((o).name) b) == (appE room pl ((o).name) b))) 11 rfl (by kernel_rfl) (.inr ⟨hb_4, trivial⟩) (fun _ => (x_eqI rfl rfl)) ?_
      refine RT.takeP (v := .bool ((appE room pl ((o).name) b) == (appE room pl ((o).name) b))) 12 rfl (by kernel_rfl) (.inr ⟨hb_4, trivial⟩) (fun _ => (x_assignB rfl)) ?_
      refine RT.done (by kernel_rfl) ?_
      refine Run.ret1 (v := .bool ((appE room pl ((o).name) b) == (appE room pl ((o).name) b))) Try.func43 rfl rfl ?_
      have he : stepX room pl ⟨o.op, o.name, o.other, b, pts⟩ = appL room pl ((o).name) b := by
        unfold stepX stepL
        simp only
        repeat' split
        all_goals first | rfl | (exfalso; omega)
      refine ⟨_, rfl, by simp, F_10, F_18, by rw [he]; exact hD_12, by rw [he]; exact hR_20, hm1_hD_12, hm2_hR_20, (fun q_ h1 h2 => pr_24 q_ h2 h1), K0⟩
    · try simp only [br] at hc19
      refine Run.seq ?_
      refine Run.region ?_
      refine RL.val (x_eqI rfl rfl) ?_
      refine RL.val (x_assignB rfl) ?_
      refine RL.nil ?_
      refine Run.cond rfl (fun hc35 => ?_) (fun hc35 => ?_)
      · try simp only [br] at hc35
        refine Run.seq ?_
        refine Run.drawT [] (m := 10) (by kernel_rfl) rfl ?_
        intro w_26 K_27
        replace hD := hD.ext K_27
        replace hR := hR.ext K_27
        replace ht1 := ht1.ext K_27
        replace hb_4 := hb_4.ext K_27
        replace K0 := K0.ext K_27
        refine ⟨fun w' => Blk w' b_1 [.int .i64 ((o).op), .string ((o).name), .string ((o).other), .slice ((o).bytes.a) ((o).bytes.len) ((o).bytes.cap), .slice ((o).tears.a) ((o).tears.len) ((o).tears.cap)] 34 ∧ True, ?_⟩
        refine RT.takeP (v := .pointer (some ⟨d, 0, none⟩)) 0 rfl (by kernel_rfl) (.inr ⟨hb_4, trivial⟩) (fun _ => (x_moveP rfl)) ?_
        refine RT.takeP (v := .pointer (some ⟨b_1, 1, none⟩)) 1 rfl (by kernel_rfl) (.inr ⟨hb_4, trivial⟩) (fun _ => (x_fld (o' := 1) Try.underlying34 rfl ty9 rfl rfl rfl)) ?_
        refine RT.take (v := .string ((o).name)) 2 rfl (by kernel_rfl) ⟨hb_4, trivial⟩ (by rintro _ ⟨hb_4, -⟩; exact (x_ld (v := .string ((o).name)) ty9 rfl rfl (hb_4.cl.field (i := 1) rfl))) ?_
        refine RT.takeP (v := .pointer (some ⟨x, 0, none⟩)) 4 rfl (by kernel_rfl) (.inr ⟨hb_4, trivial⟩) (fun _ => (x_moveP rfl)) ?_
        refine RT.takeP (v := .pointer (some ⟨b_1, 1, none⟩)) 5 rfl (by kernel_rfl) (.inr ⟨hb_4, trivial⟩) (fun _ => (x_fld (o' := 1) Try.underlying34 rfl ty9 rfl rfl rfl)) ?_
        refine RT.take (v := .string ((o).name)) 6 rfl (by kernel_rfl) ⟨hb_4, trivial⟩ (by rintro _ ⟨hb_4, -⟩; exact (x_ld (v := .string ((o).name)) ty9 rfl rfl (hb_4.cl.field (i := 1) rfl))) ?_
        refine RT.st 3 rfl (by kernel_rfl) rfl <| St1.call (vals := [.pointer (some ⟨d, 0, none⟩), .string ((o).name)]) en20 rfl (syncD hD ((o).name) (by first | omega | decide)) ?_
        rintro _ w_29 ⟨F_28, rfl, hD_30, hm_31, K_32⟩
        have hm1_hD_30 : MovedS w F1 F_28 := hm1_hD.trans hm_31 K0.size
        have pr_33 : ∀ q_, F_28 q_ → ¬ F2 q_ := hm_31.apart hap hR.own_lt
        have pr_34 : ¬ F_28 b_1 := hm_31.not pr_6 hb_4.lt
        have pg_35 : ∀ q_, F_28 q_ → q_ < w.heap.size → (fun q => F1 q ∨ F2 q) q_ := hm_31.inS (fun q_ h_ _ => Or.inl h_) K0.size
        replace hR := hR.keepO K_32 (fun q_ h1 h2 => hap q_ h2 h1)
        replace hb_4 := hb_4.keep K_32 pr_6
        replace K0 := K0.trans K_32 (fun x hlt hx => (fun q_ h_ _ => Or.inl h_) x hx hlt)
        clear hm_31
        have hNn_hD_30 : ∀ q_, F_28 q_ → w0.heap.size ≤ q_ := fun q_ h_ => (hm1_hD_30 q_ h_).elim (fun y_ => hN q_ (Or.inl y_)) (fun y_ => Nat.le_trans k0.size y_)
        refine ⟨.inr ⟨hb_4, trivial⟩, ?_⟩
        refine RT.st 7 rfl (by kernel_rfl) rfl <| St1.call (vals := [.pointer (some ⟨x, 0, none⟩), .string ((o).name)]) en53 rfl (syncRA hR ((o).name) (by first | omega | decide)) ?_
        rintro _ w_37 ⟨F_36, rfl, hR_38, hm_39, K_40⟩
        have hm2_hR_38 : MovedS w F2 F_36 := hm2_hR.trans hm_39 K0.size
        have pr_41 : ¬ F_36 b_1 := hm_39.not pr_7 hb_4.lt
        have pr_42 : ∀ q_, F_36 q_ → ¬ F_28 q_ := hm_39.apart (fun q_ h1 h2 => pr_33 q_ h2 h1) hD_30.own_lt
        have pg_43 : ∀ q_, F_36 q_ → q_ < w.heap.size → (fun q => F1 q ∨ F2 q) q_ := hm_39.inS (fun q_ h_ _ => Or.inr h_) K0.size
        replace hb_4 := hb_4.keep K_40 pr_7
        replace hD_30 := hD_30.keepO K_40 pr_33
        replace K0 := K0.trans K_40 (fun x hlt hx => (fun q_ h_ _ => Or.inr h_) x hx hlt)
        clear hm_39
        have hNn_hR_38 : ∀ q_, F_36 q_ → w0.heap.size ≤ q_ := fun q_ h_ => (hm2_hR_38 q_ h_).elim (fun y_ => hN q_ (Or.inr y_)) (fun y_ => Nat.le_trans k0.size y_)
        refine ⟨.inr ⟨hb_4, trivial⟩, ?_⟩
        refine RT.takeP (v := .bool ((lookE pl ((o).name)) == (lookE pl ((o).name)))) 8 rfl (by kernel_rfl) (.inr ⟨hb_4, trivial⟩) (fun _ => (x_eqI rfl rfl)) ?_
        refine RT.takeP (v := .bool ((lookE pl ((o).name)) == (lookE pl ((o).name)))) 9 rfl (by kernel_rfl) (.inr ⟨hb_4, trivial⟩) (fun _ => (x_assignB rfl)) ?_
        refine RT.done (by kernel_rfl) ?_
        refine Run.ret1 (v := .bool ((lookE pl ((o).name)) == (lookE pl ((o).name)))) Try.func43 rfl rfl ?_
        have he : stepX room pl ⟨o.op, o.name, o.other, b, pts⟩ = syncL pl ((o).name) := by
          unfold stepX stepL
          simp only
          repeat' split
          all_goals first | rfl | (exfalso; omega)
        refine ⟨_, rfl, by simp, F_28, F_36, by rw [he]; exact hD_30, by rw [he]; exact hR_38, hm1_hD_30, hm2_hR_38, (fun q_ h1 h2 => pr_42 q_ h2 h1), K0⟩
      · try simp only [br] at hc35
        refine Run.seq ?_
        refine Run.region ?_
        refine RL.val (x_eqI rfl rfl) ?_
        refine RL.val (x_assignB rfl) ?_
        refine RL.nil ?_
        refine Run.cond rfl (fun hc46 => ?_) (fun hc46 => ?_)
        · try simp only [br] at hc46
          refine Run.seq ?_
          refine Run.drawT [] (m := 14) (by kernel_rfl) rfl ?_
          intro w_44 K_45
          replace hD := hD.ext K_45
          replace hR := hR.ext K_45
          replace ht1 := ht1.ext K_45
          replace hb_4 := hb_4.ext K_45
          replace K0 := K0.ext K_45
          refine ⟨fun w' => Blk w' b_1 [.int .i64 ((o).op), .string ((o).name), .string ((o).other), .slice ((o).bytes.a) ((o).bytes.len) ((o).bytes.cap), .slice ((o).tears.a) ((o).tears.len) ((o).tears.cap)] 34 ∧ True, ?_⟩
          refine RT.takeP (v := .pointer (some ⟨d, 0, none⟩)) 0 rfl (by kernel_rfl) (.inr ⟨hb_4, trivial⟩) (fun _ => (x_moveP rfl)) ?_
          refine RT.takeP (v := .pointer (some ⟨b_1, 1, none⟩)) 1 rfl (by kernel_rfl) (.inr ⟨hb_4, trivial⟩) (fun _ => (x_fld (o' := 1) Try.underlying34 rfl ty9 rfl rfl rfl)) ?_
          refine RT.take (v := .string ((o).name)) 2 rfl (by kernel_rfl) ⟨hb_4, trivial⟩ (by rintro _ ⟨hb_4, -⟩; exact (x_ld (v := .string ((o).name)) ty9 rfl rfl (hb_4.cl.field (i := 1) rfl))) ?_
          refine RT.takeP (v := .pointer (some ⟨b_1, 2, none⟩)) 3 rfl (by kernel_rfl) (.inr ⟨hb_4, trivial⟩) (fun _ => (x_fld (o' := 2) Try.underlying34 rfl ty9 rfl rfl rfl)) ?_
          refine RT.take (v := .string ((o).other)) 4 rfl (by kernel_rfl) ⟨hb_4, trivial⟩ (by rintro _ ⟨hb_4, -⟩; exact (x_ld (v := .string ((o).other)) ty9 rfl rfl (hb_4.cl.field (i := 2) rfl))) ?_
          refine RT.takeP (v := .pointer (some ⟨x, 0, none⟩)) 6 rfl (by kernel_rfl) (.inr ⟨hb_4, trivial⟩) (fun _ => (x_moveP rfl)) ?_
          refine RT.takeP (v := .pointer (some ⟨b_1, 1, none⟩)) 7 rfl (by kernel_rfl) (.inr ⟨hb_4, trivial⟩) (fun _ => (x_fld (o' := 1) Try.underlying34 rfl ty9 rfl rfl rfl)) ?_
          refine RT.take (v := .string ((o).name)) 8 rfl (by kernel_rfl) ⟨hb_4, trivial⟩ (by rintro _ ⟨hb_4, -⟩; exact (x_ld (v := .string ((o).name)) ty9 rfl rfl (hb_4.cl.field (i := 1) rfl))) ?_
          refine RT.takeP (v := .pointer (some ⟨b_1, 2, none⟩)) 9 rfl (by kernel_rfl) (.inr ⟨hb_4, trivial⟩) (fun _ => (x_fld (o' := 2) Try.underlying34 rfl ty9 rfl rfl rfl)) ?_
          refine RT.take (v := .string ((o).other)) 10 rfl (by kernel_rfl) ⟨hb_4, trivial⟩ (by rintro _ ⟨hb_4, -⟩; exact (x_ld (v := .string ((o).other)) ty9 rfl rfl (hb_4.cl.field (i := 2) rfl))) ?_
          refine RT.st 5 rfl (by kernel_rfl) rfl <| St1.call (vals := [.pointer (some ⟨d, 0, none⟩), .string ((o).name), .string ((o).other)]) en21 rfl (renameD hD ((o).name) ((o).other) (by first | omega | decide) (by first | omega | decide)) ?_
          rintro _ w_47 ⟨F_46, rfl, hD_48, hm_49, K_50⟩
          have hm1_hD_48 : MovedS w F1 F_46 := hm1_hD.trans hm_49 K0.size
          have pr_51 : ∀ q_, F_46 q_ → ¬ F2 q_ := hm_49.apart hap hR.own_lt
          have pr_52 : ¬ F_46 b_1 := hm_49.not pr_6 hb_4.lt
          have pg_53 : ∀ q_, F_46 q_ → q_ < w.heap.size → (fun q => F1 q ∨ F2 q) q_ := hm_49.inS (fun q_ h_ _ => Or.inl h_) K0.size
          replace hR := hR.keepO K_50 (fun q_ h1 h2 => hap q_ h2 h1)
          replace hb_4 := hb_4.keep K_50 pr_6
          replace K0 := K0.trans K_50 (fun x hlt hx => (fun q_ h_ _ => Or.inl h_) x hx hlt)
          clear hm_49
          have hNn_hD_48 : ∀ q_, F_46 q_ → w0.heap.size ≤ q_ := fun q_ h_ => (hm1_hD_48 q_ h_).elim (fun y_ => hN q_ (Or.inl y_)) (fun y_ => Nat.le_trans k0.size y_)
          refine ⟨.inr ⟨hb_4, trivial⟩, ?_⟩
          refine RT.st 11 rfl (by kernel_rfl) rfl <| St1.call (vals := [.pointer (some ⟨x, 0, none⟩), .string ((o).name), .string ((o).other)]) en54 rfl (renameRA hR ((o).name) ((o).other) (by first | omega | decide) (by first | omega | decide)) ?_
          rintro _ w_55 ⟨F_54, rfl, hR_56, hm_57, K_58⟩
          have hm2_hR_56 : MovedS w F2 F_54 := hm2_hR.trans hm_57 K0.size
          have pr_59 : ¬ F_54 b_1 := hm_57.not pr_7 hb_4.lt
          have pr_60 : ∀ q_, F_54 q_ → ¬ F_46 q_ := hm_57.apart (fun q_ h1 h2 => pr_51 q_ h2 h1) hD_48.own_lt
          have pg_61 : ∀ q_, F_54 q_ → q_ < w.heap.size → (fun q => F1 q ∨ F2 q) q_ := hm_57.inS (fun q_ h_ _ => Or.inr h_) K0.size
          replace hb_4 := hb_4.keep K_58 pr_7
          replace hD_48 := hD_48.keepO K_58 pr_51
          replace K0 := K0.trans K_58 (fun x hlt hx => (fun q_ h_ _ => Or.inr h_) x hx hlt)
          clear hm_57
          have hNn_hR_56 : ∀ q_, F_54 q_ → w0.heap.size ≤ q_ := fun q_ h_ => (hm2_hR_56 q_ h_).elim (fun y_ => hN q_ (Or.inr y_)) (fun y_ => Nat.le_trans k0.size y_)
          refine ⟨.inr ⟨hb_4, trivial⟩, ?_⟩
          refine RT.takeP (v := .bool ((renE pl ((o).name) ((o).other)) == (renE pl ((o).name) ((o).other)))) 12 rfl (by kernel_rfl) (.inr ⟨hb_4, trivial⟩) (fun _ => (x_eqI rfl rfl)) ?_
          refine RT.takeP (v := .bool ((renE pl ((o).name) ((o).other)) == (renE pl ((o).name) ((o).other)))) 13 rfl (by kernel_rfl) (.inr ⟨hb_4, trivial⟩) (fun _ => (x_assignB rfl)) ?_
          refine RT.done (by kernel_rfl) ?_
          refine Run.ret1 (v := .bool ((renE pl ((o).name) ((o).other)) == (renE pl ((o).name) ((o).other)))) Try.func43 rfl rfl ?_
          have he : stepX room pl ⟨o.op, o.name, o.other, b, pts⟩ = renL pl ((o).name) ((o).other) := by
            unfold stepX stepL
            simp only
            repeat' split
            all_goals first | rfl | (exfalso; omega)
          refine ⟨_, rfl, by simp, F_46, F_54, by rw [he]; exact hD_48, by rw [he]; exact hR_56, hm1_hD_48, hm2_hR_56, (fun q_ h1 h2 => pr_60 q_ h2 h1), K0⟩
        · try simp only [br] at hc46
          refine Run.seq ?_
          refine Run.region ?_
          refine RL.val (x_eqI rfl rfl) ?_
          refine RL.val (x_assignB rfl) ?_
          refine RL.nil ?_
          refine Run.cond rfl (fun hc61 => ?_) (fun hc61 => ?_)
          · try simp only [br] at hc61
            refine Run.seq ?_
            refine Run.drawT [] (m := 10) (by kernel_rfl) rfl ?_
            intro w_62 K_63
            replace hD := hD.ext K_63
            replace hR := hR.ext K_63
            replace ht1 := ht1.ext K_63
            replace hb_4 := hb_4.ext K_63
            replace K0 := K0.ext K_63
            refine ⟨fun w' => Blk w' b_1 [.int .i64 ((o).op), .string ((o).name), .string ((o).other), .slice ((o).bytes.a) ((o).bytes.len) ((o).bytes.cap), .slice ((o).tears.a) ((o).tears.len) ((o).tears.cap)] 34 ∧ True, ?_⟩
            refine RT.takeP (v := .pointer (some ⟨d, 0, none⟩)) 0 rfl (by kernel_rfl) (.inr ⟨hb_4, trivial⟩) (fun _ => (x_moveP rfl)) ?_
            refine RT.takeP (v := .pointer (some ⟨b_1, 1, none⟩)) 1 rfl (by kernel_rfl) (.inr ⟨hb_4, trivial⟩) (fun _ => (x_fld (o' := 1) Try.underlying34 rfl ty9 rfl rfl rfl)) ?_
            refine RT.take (v := .string ((o).name)) 2 rfl (by kernel_rfl) ⟨hb_4, trivial⟩ (by rintro _ ⟨hb_4, -⟩; exact (x_ld (v := .string ((o).name)) ty9 rfl rfl (hb_4.cl.field (i := 1) rfl))) ?_
            refine RT.takeP (v := .pointer (some ⟨x, 0, none⟩)) 4 rfl (by kernel_rfl) (.inr ⟨hb_4, trivial⟩) (fun _ => (x_moveP rfl)) ?_
            refine RT.takeP (v := .pointer (some ⟨b_1, 1, none⟩)) 5 rfl (by kernel_rfl) (.inr ⟨hb_4, trivial⟩) (fun _ => (x_fld (o' := 1) Try.underlying34 rfl ty9 rfl rfl rfl)) ?_
            refine RT.take (v := .string ((o).name)) 6 rfl (by kernel_rfl) ⟨hb_4, trivial⟩ (by rintro _ ⟨hb_4, -⟩; exact (x_ld (v := .string ((o).name)) ty9 rfl rfl (hb_4.cl.field (i := 1) rfl))) ?_
            refine RT.st 3 rfl (by kernel_rfl) rfl <| St1.call (vals := [.pointer (some ⟨d, 0, none⟩), .string ((o).name)]) en22 rfl (removeD hD ((o).name) (by first | omega | decide)) ?_
            rintro _ w_65 ⟨F_64, rfl, hD_66, hm_67, K_68⟩
            have hm1_hD_66 : MovedS w F1 F_64 := hm1_hD.trans hm_67 K0.size
            have pr_69 : ∀ q_, F_64 q_ → ¬ F2 q_ := hm_67.apart hap hR.own_lt
            have pr_70 : ¬ F_64 b_1 := hm_67.not pr_6 hb_4.lt
            have pg_71 : ∀ q_, F_64 q_ → q_ < w.heap.size → (fun q => F1 q ∨ F2 q) q_ := hm_67.inS (fun q_ h_ _ => Or.inl h_) K0.size
            replace hR := hR.keepO K_68 (fun q_ h1 h2 => hap q_ h2 h1)
            replace hb_4 := hb_4.keep K_68 pr_6
            replace K0 := K0.trans K_68 (fun x hlt hx => (fun q_ h_ _ => Or.inl h_) x hx hlt)
            clear hm_67
            have hNn_hD_66 : ∀ q_, F_64 q_ → w0.heap.size ≤ q_ := fun q_ h_ => (hm1_hD_66 q_ h_).elim (fun y_ => hN q_ (Or.inl y_)) (fun y_ => Nat.le_trans k0.size y_)
            refine ⟨.inr ⟨hb_4, trivial⟩, ?_⟩
            refine RT.st 7 rfl (by kernel_rfl) rfl <| St1.call (vals := [.pointer (some ⟨x, 0, none⟩), .string ((o).name)]) en55 rfl (removeRA hR ((o).name) (by first | omega | decide)) ?_
            rintro _ w_73 ⟨F_72, rfl, hR_74, hm_75, K_76⟩
            have hm2_hR_74 : MovedS w F2 F_72 := hm2_hR.trans hm_75 K0.size
            have pr_77 : ¬ F_72 b_1 := hm_75.not pr_7 hb_4.lt
            have pr_78 : ∀ q_, F_72 q_ → ¬ F_64 q_ := hm_75.apart (fun q_ h1 h2 => pr_69 q_ h2 h1) hD_66.own_lt
            have pg_79 : ∀ q_, F_72 q_ → q_ < w.heap.size → (fun q => F1 q ∨ F2 q) q_ := hm_75.inS (fun q_ h_ _ => Or.inr h_) K0.size
            replace hb_4 := hb_4.keep K_76 pr_7
            replace hD_66 := hD_66.keepO K_76 pr_69
            replace K0 := K0.trans K_76 (fun x hlt hx => (fun q_ h_ _ => Or.inr h_) x hx hlt)
            clear hm_75
            have hNn_hR_74 : ∀ q_, F_72 q_ → w0.heap.size ≤ q_ := fun q_ h_ => (hm2_hR_74 q_ h_).elim (fun y_ => hN q_ (Or.inr y_)) (fun y_ => Nat.le_trans k0.size y_)
            refine ⟨.inr ⟨hb_4, trivial⟩, ?_⟩
            refine RT.takeP (v := .bool ((lookE pl ((o).name)) == (lookE pl ((o).name)))) 8 rfl (by kernel_rfl) (.inr ⟨hb_4, trivial⟩) (fun _ => (x_eqI rfl rfl)) ?_
            refine RT.takeP (v := .bool ((lookE pl ((o).name)) == (lookE pl ((o).name)))) 9 rfl (by kernel_rfl) (.inr ⟨hb_4, trivial⟩) (fun _ => (x_assignB rfl)) ?_
            refine RT.done (by kernel_rfl) ?_
            refine Run.ret1 (v := .bool ((lookE pl ((o).name)) == (lookE pl ((o).name)))) Try.func43 rfl rfl ?_
            have he : stepX room pl ⟨o.op, o.name, o.other, b, pts⟩ = remL pl ((o).name) := by
              unfold stepX stepL
              simp only
              repeat' split
              all_goals first | rfl | (exfalso; omega)
            refine ⟨_, rfl, by simp, F_64, F_72, by rw [he]; exact hD_66, by rw [he]; exact hR_74, hm1_hD_66, hm2_hR_74, (fun q_ h1 h2 => pr_78 q_ h2 h1), K0⟩
          · try simp only [br] at hc61
            refine Run.seq ?_
            refine Run.region ?_
            refine RL.val (x_eqI rfl rfl) ?_
            refine RL.val (x_assignB rfl) ?_
            refine RL.nil ?_
            refine Run.cond rfl (fun hc72 => ?_) (fun hc72 => ?_)
            · try simp only [br] at hc72
              refine Run.seq ?_
              refine Run.drawT [] (m := 9) (by kernel_rfl) rfl ?_
              intro w_80 K_81
              replace hD := hD.ext K_81
              replace hR := hR.ext K_81
              replace ht1 := ht1.ext K_81
              replace hb_4 := hb_4.ext K_81
              replace K0 := K0.ext K_81
              refine ⟨fun w' => Blk w' b_1 [.int .i64 ((o).op), .string ((o).name), .string ((o).other), .slice ((o).bytes.a) ((o).bytes.len) ((o).bytes.cap), .slice ((o).tears.a) ((o).tears.len) ((o).tears.cap)] 34 ∧ True, ?_⟩
              refine RT.takeP (v := .pointer (some ⟨d, 0, none⟩)) 0 rfl (by kernel_rfl) (.inr ⟨hb_4, trivial⟩) (fun _ => (x_moveP rfl)) ?_
              refine RT.takeP (v := .slice (at1) (ts1.length) (ct)) 1 rfl (by kernel_rfl) (.inr ⟨hb_4, trivial⟩) (fun _ => (x_moveSl rfl)) ?_
              refine RT.takeP (v := .pointer (some ⟨x, 0, none⟩)) 3 rfl (by kernel_rfl) (.inr ⟨hb_4, trivial⟩) (fun _ => (x_moveP rfl)) ?_
              refine RT.takeP (v := .pointer (some ⟨b_1, 4, none⟩)) 4 rfl (by kernel_rfl) (.inr ⟨hb_4, trivial⟩) (fun _ => (x_fld (o' := 4) Try.underlying34 rfl ty32 rfl rfl rfl)) ?_
              refine RT.take (v := .slice (o.tears.a) (ts0.length) (o.tears.cap)) 5 rfl (by kernel_rfl) ⟨hb_4, trivial⟩ (by rintro _ ⟨hb_4, -⟩; exact (litSl (m' := ts0.length) (x_ld (v := .slice ((o).tears.a) ((o).tears.len) ((o).tears.cap)) ty32 rfl rfl (hb_4.cl.field (i := 4) rfl)) htl0)) ?_
              refine RT.st 2 rfl (by kernel_rfl) rfl <| St1.call (vals := [.pointer (some ⟨d, 0, none⟩), .slice (at1) (ts1.length) (ct)]) en23 rfl (crashD hD _ _ _ pts (hot.keepN K0 hdt) ht1 (by first | omega | decide)) ?_
              rintro _ w_83 ⟨F_82, rfl, hD_84, hm_85, K_86⟩
              have hm1_hD_84 : MovedS w F1 F_82 := hm1_hD.trans hm_85 K0.size
              have pr_87 : ∀ q_, F_82 q_ → ¬ F2 q_ := hm_85.apart hap hR.own_lt
              have pr_88 : ¬ F_82 b_1 := hm_85.not pr_6 hb_4.lt
              have pg_89 : ∀ q_, F_82 q_ → q_ < w.heap.size → (fun q => F1 q ∨ F2 q) q_ := hm_85.inS (fun q_ h_ _ => Or.inl h_) K0.size
              replace hR := hR.keepO K_86 (fun q_ h1 h2 => hap q_ h2 h1)
              replace hb_4 := hb_4.keep K_86 pr_6
              replace K0 := K0.trans K_86 (fun x hlt hx => (fun q_ h_ _ => Or.inl h_) x hx hlt)
              clear hm_85
              have hNn_hD_84 : ∀ q_, F_82 q_ → w0.heap.size ≤ q_ := fun q_ h_ => (hm1_hD_84 q_ h_).elim (fun y_ => hN q_ (Or.inl y_)) (fun y_ => Nat.le_trans k0.size y_)
              refine ⟨.inr ⟨hb_4, trivial⟩, ?_⟩
              refine RT.st 6 rfl (by kernel_rfl) rfl <| St1.call (vals := [.pointer (some ⟨x, 0, none⟩), .slice (o.tears.a) (ts0.length) (o.tears.cap)]) en56 rfl (crashRA hR _ _ _ pts (hts0.ext (k0.new K0 hN)) (htt0.ext (k0.new K0 hN)) (far hts0 (fun q_ h_ => hNn_hR q_ h_)) (farj htt0 (fun q_ h_ => hNn_hR q_ h_)) (by first | omega | decide)) ?_
              rintro _ w_91 ⟨F_90, rfl, hR_92, hm_93, K_94⟩
              have hm2_hR_92 : MovedS w F2 F_90 := hm2_hR.trans hm_93 K0.size
              have pr_95 : ¬ F_90 b_1 := hm_93.not pr_7 hb_4.lt
              have pr_96 : ∀ q_, F_90 q_ → ¬ F_82 q_ := hm_93.apart (fun q_ h1 h2 => pr_87 q_ h2 h1) hD_84.own_lt
              have pg_97 : ∀ q_, F_90 q_ → q_ < w.heap.size → (fun q => F1 q ∨ F2 q) q_ := hm_93.inS (fun q_ h_ _ => Or.inr h_) K0.size
              replace hb_4 := hb_4.keep K_94 pr_7
              replace hD_84 := hD_84.keepO K_94 pr_87
              replace K0 := K0.trans K_94 (fun x hlt hx => (fun q_ h_ _ => Or.inr h_) x hx hlt)
              clear hm_93
              have hNn_hR_92 : ∀ q_, F_90 q_ → w0.heap.size ≤ q_ := fun q_ h_ => (hm2_hR_92 q_ h_).elim (fun y_ => hN q_ (Or.inr y_)) (fun y_ => Nat.le_trans k0.size y_)
              refine ⟨.inr ⟨hb_4, trivial⟩, ?_⟩
              refine RT.takeP (v := .bool ((tornE pl pts []) == (tornE pl pts []))) 7 rfl (by kernel_rfl) (.inr ⟨hb_4, trivial⟩) (fun _ => (x_eqI rfl rfl)) ?_
              refine RT.takeP (v := .bool ((tornE pl pts []) == (tornE pl pts []))) 8 rfl (by kernel_rfl) (.inr ⟨hb_4, trivial⟩) (fun _ => (x_assignB rfl)) ?_
              refine RT.done (by kernel_rfl) ?_
              refine Run.ret1 (v := .bool ((tornE pl pts []) == (tornE pl pts []))) Try.func43 rfl rfl ?_
              have he : stepX room pl ⟨o.op, o.name, o.other, b, pts⟩ = crashL pl pts := by
                unfold stepX stepL
                simp only
                repeat' split
                all_goals first | rfl | (exfalso; omega)
              refine ⟨_, rfl, by simp, F_82, F_90, by rw [he]; exact hD_84, by rw [he]; exact hR_92, hm1_hD_84, hm2_hR_92, (fun q_ h1 h2 => pr_96 q_ h2 h1), K0⟩
            · try simp only [br] at hc72
              refine Run.skip ?_
              refine Run.inBlock ?_
              refine Run.seq ?_
              refine Run.seq ?_
              refine Run.region ?_
              refine RL.val (x_fld (o' := 3) Try.underlying34 rfl ty26 rfl rfl rfl) ?_
              refine RL.val (litSl (m' := b.length) (x_ld (v := .slice ((o).bytes.a) ((o).bytes.len) ((o).bytes.cap)) ty26 rfl rfl (hb_4.cl.field (i := 3) rfl)) h0.bl) ?_
              refine RL.val (x_lenSl Try.underlying26 rfl) ?_
              refine RL.val (x_ltI rfl rfl) ?_
              refine RL.nil ?_
              refine Run.cond rfl (fun hc85 => ?_) (fun hc85 => ?_)
              · try simp only [br] at hc85
                refine Run.seq ?_
                refine Run.region ?_
                refine RL.val (x_moveP rfl) ?_
                refine RL.st rfl <| St1.call (vals := [.pointer (some ⟨x, 0, none⟩)]) en57 rfl (wipeRA hR) ?_
                rintro _ w_99 ⟨rfl, F_98, hR_100, hm_101, K_102⟩
                have hm2_hR_100 : MovedS w F2 F_98 := hm2_hR.trans hm_101 K0.size
                have pr_103 : ∀ q_, F_98 q_ → ¬ F1 q_ := hm_101.apart (fun q_ h1 h2 => hap q_ h2 h1) hD.own_lt
                have pr_104 : ¬ F_98 b_1 := hm_101.not pr_7 hb_4.lt
                have pg_105 : ∀ q_, F_98 q_ → q_ < w.heap.size → (fun q => F1 q ∨ F2 q) q_ := hm_101.inS (fun q_ h_ _ => Or.inr h_) K0.size
                replace hD := hD.keepO K_102 hap
                replace hb_4 := hb_4.keep K_102 pr_7
                replace K0 := K0.trans K_102 (fun x hlt hx => (fun q_ h_ _ => Or.inr h_) x hx hlt)
                clear hm_101
                have hNn_hR_100 : ∀ q_, F_98 q_ → w0.heap.size ≤ q_ := fun q_ h_ => (hm2_hR_100 q_ h_).elim (fun y_ => hN q_ (Or.inr y_)) (fun y_ => Nat.le_trans k0.size y_)
                refine RL.nil ?_
                refine Run.seq ?_
                refine Run.region ?_
                refine RL.val (x_moveP rfl) ?_
                refine RL.st rfl <| St1.call (vals := [.pointer (some ⟨d, 0, none⟩)]) en25 rfl (wipeD hD ) ?_
                rintro _ w_107 ⟨F_106, rfl, hD_108, hm_109, K_110⟩
                have hm1_hD_108 : MovedS w F1 F_106 := hm1_hD.trans hm_109 K0.size
                have pr_111 : ¬ F_106 b_1 := hm_109.not pr_6 hb_4.lt
                have pr_112 : ∀ q_, F_106 q_ → ¬ F_98 q_ := hm_109.apart (fun q_ h1 h2 => pr_103 q_ h2 h1) hR_100.own_lt
                have pg_113 : ∀ q_, F_106 q_ → q_ < w.heap.size → (fun q => F1 q ∨ F2 q) q_ := hm_109.inS (fun q_ h_ _ => Or.inl h_) K0.size
                replace hb_4 := hb_4.keep K_110 pr_6
                replace hR_100 := hR_100.keepO K_110 pr_103
                replace K0 := K0.trans K_110 (fun x hlt hx => (fun q_ h_ _ => Or.inl h_) x hx hlt)
                clear hm_109
                have hNn_hD_108 : ∀ q_, F_106 q_ → w0.heap.size ≤ q_ := fun q_ h_ => (hm1_hD_108 q_ h_).elim (fun y_ => hN q_ (Or.inl y_)) (fun y_ => Nat.le_trans k0.size y_)
                refine RL.val (litT (x_eqI rfl rfl) (by decide)) ?_
                refine RL.val (x_assignB rfl) ?_
                refine RL.nil ?_
                refine Run.ret1 (v := .bool (true)) Try.func43 rfl rfl ?_
                have he : stepX room pl ⟨o.op, o.name, o.other, b, pts⟩ = [] := by
                  unfold stepX stepL
                  simp only
                  repeat' split
                  all_goals first | rfl | (exfalso; omega)
                refine ⟨_, rfl, by simp, F_106, F_98, by rw [he]; exact hD_108, by rw [he]; exact hR_100, hm1_hD_108, hm2_hR_100, pr_112, K0⟩
              · try simp only [br] at hc85
                refine Run.skip ?_
                refine Run.seq ?_
                refine Run.region ?_
                refine RL.val (x_moveP rfl) ?_
                refine RL.val (x_fld (o' := 1) Try.underlying34 rfl ty9 rfl rfl rfl) ?_
                refine RL.val (x_ld (v := .string ((o).name)) ty9 rfl rfl (hb_4.cl.field (i := 1) rfl)) ?_
                refine RL.st rfl <| St1.call (vals := [.pointer (some ⟨d, 0, none⟩), .string ((o).name)]) en12 rfl (readD hD ((o).name) (by first | omega | decide)) ?_
                rintro _ w_116 ⟨a_114, c_115, rfl, ho_117, hg_118, K_119⟩
                have pr_120 : ∀ q_, own a_114 q_ → ¬ F1 q_ := apartNew hg_118 hD.own_lt
                have pr_121 : ∀ q_, own a_114 q_ → ¬ F2 q_ := apartNew hg_118 hR.own_lt
                have pr_122 : ¬ own a_114 b_1 := notNew hg_118 hb_4.lt
                have pg_123 : ∀ q_, own a_114 q_ → q_ < w.heap.size → (fun q => F1 q ∨ F2 q) q_ := fun q_ h hlt => absurd (Nat.le_trans K0.size (hg_118 q_ h)) (by omega)
                have pw_124 : ∀ q_, own a_114 q_ → w.heap.size ≤ q_ := fun q_ h => Nat.le_trans K0.size (hg_118 q_ h)
                clear hg_118
                replace hD := hD.ext K_119
                replace hR := hR.ext K_119
                replace ht1 := ht1.ext K_119
                replace hb_4 := hb_4.ext K_119
                replace K0 := K0.ext K_119
                refine RL.val (x_moveT rfl) ?_
                refine RL.val (x_extract rfl rfl) ?_
                refine RL.val (x_extract rfl rfl) ?_
                refine RL.val (x_assignSl rfl) ?_
                refine RL.val (x_assignI rfl) ?_
                refine RL.nil ?_
                refine Run.seq ?_
                refine Run.region ?_
                refine RL.val (x_moveP rfl) ?_
                refine RL.val (x_fld (o' := 1) Try.underlying34 rfl ty9 rfl rfl rfl) ?_
                refine RL.val (x_ld (v := .string ((o).name)) ty9 rfl rfl (hb_4.cl.field (i := 1) rfl)) ?_
                refine RL.st rfl <| St1.call (vals := [.pointer (some ⟨x, 0, none⟩), .string ((o).name)]) en58 rfl (readRA hR ((o).name) (by first | omega | decide)) ?_
                rintro _ w_127 ⟨a_125, c_126, rfl, ho_128, hg_129, K_130⟩
                have pr_131 : ∀ q_, own a_125 q_ → ¬ F1 q_ := apartNew hg_129 hD.own_lt
                have pr_132 : ∀ q_, own a_125 q_ → ¬ F2 q_ := apartNew hg_129 hR.own_lt
                have pr_133 : ¬ own a_125 b_1 := notNew hg_129 hb_4.lt
                have pr_134 : ∀ q_, own a_125 q_ → ¬ own a_114 q_ := apartNew hg_129 ho_117.own_lt
                have pg_135 : ∀ q_, own a_125 q_ → q_ < w.heap.size → (fun q => F1 q ∨ F2 q) q_ := fun q_ h hlt => absurd (Nat.le_trans K0.size (hg_129 q_ h)) (by omega)
                have pw_136 : ∀ q_, own a_125 q_ → w.heap.size ≤ q_ := fun q_ h => Nat.le_trans K0.size (hg_129 q_ h)
                clear hg_129
                replace hD := hD.ext K_130
                replace hR := hR.ext K_130
                replace ht1 := ht1.ext K_130
                replace hb_4 := hb_4.ext K_130
                replace ho_117 := ho_117.ext K_130
                replace K0 := K0.ext K_130
                refine RL.val (x_moveT rfl) ?_
                refine RL.val (x_extract rfl rfl) ?_
                refine RL.val (x_extract rfl rfl) ?_
                refine RL.val (x_assignSl rfl) ?_
                refine RL.val (x_assignI rfl) ?_
                refine RL.nil ?_
                refine Run.seq ?_
                have hrbl := read_len hD.ok o.name
                refine Run.region ?_
                refine RL.val (x_moveI rfl) ?_
                refine RL.val (x_moveI rfl) ?_
                refine RL.val (x_eqI rfl rfl) ?_
                refine RL.val (x_moveB rfl) ?_
                refine RL.gval (wantedT rfl rfl rfl rfl) (fun hg => (x_moveSl rfl)) ?_
                refine RL.gval (wantedT rfl rfl rfl rfl) (fun hg => (x_moveSl rfl)) ?_
                refine RL.gcall (vals := [.slice (a_114) ((readB pl ((o).name)).length) (c_115), .slice (a_125) ((readB pl ((o).name)).length) (c_126)]) (wantedT rfl rfl rfl rfl) en47 (fun hg => (mcons (gvr hg) (mcons (gvr hg) mnil))) (fun hg => (equal_byte _ _ _ _ _ _ _ ho_117.sl ho_128.sl (by omega))) ?_
                intro w_137 K_138
                replace hD := hD.ext K_138
                replace hR := hR.ext K_138
                replace ht1 := ht1.ext K_138
                replace hb_4 := hb_4.ext K_138
                replace ho_117 := ho_117.ext K_138
                replace ho_128 := ho_128.ext K_138
                replace K0 := K0.ext K_138
                refine RL.val (x_and rfl rfl rfl) ?_
                refine RL.val (x_assignB rfl) ?_
                refine RL.nil ?_
                refine Run.ret1 (v := .bool (((lookE pl ((o).name)) == (lookE pl ((o).name))) && (decide (readB pl ((o).name) = readB pl ((o).name))))) Try.func43 rfl rfl ?_
                have he : stepX room pl ⟨o.op, o.name, o.other, b, pts⟩ = pl := by
                  unfold stepX stepL
                  simp only
                  repeat' split
                  all_goals first | rfl | (exfalso; omega)
                refine ⟨_, rfl, by simp, F1, F2, by rw [he]; exact hD, by rw [he]; exact hR, hm1_hD, hm2_hR, hap, K0⟩
  · try simp only [br] at hc19
    refine Run.seq ?_
    refine Run.region ?_
    refine RL.val (x_eqI rfl rfl) ?_
    refine RL.val (x_assignB rfl) ?_
    refine RL.nil ?_
    refine Run.cond rfl (fun hc19 => ?_) (fun hc19 => ?_)
    · try simp only [br] at hc19
      refine Run.skip ?_
      refine Run.cond rfl (fun hc19 => ?_) (fun hc19 => ?_)
      · try simp only [br] at hc19
        refine Run.seq ?_
        refine Run.drawT [] (m := 13) (by kernel_rfl) rfl ?_
        intro w_139 K_140
        replace hD := hD.ext K_140
        replace hR := hR.ext K_140
        replace ht1 := ht1.ext K_140
        replace hb_4 := hb_4.ext K_140
        replace K0 := K0.ext K_140
        refine ⟨fun w' => Blk w' b_1 [.int .i64 ((o).op), .string ((o).name), .string ((o).other), .slice ((o).bytes.a) ((o).bytes.len) ((o).bytes.cap), .slice ((o).tears.a) ((o).tears.len) ((o).tears.cap)] 34 ∧ True, ?_⟩
        refine RT.takeP (v := .pointer (some ⟨d, 0, none⟩)) 0 rfl (by kernel_rfl) (.inr ⟨hb_4, trivial⟩) (fun _ => (x_moveP rfl)) ?_
        refine RT.takeP (v := .pointer (some ⟨b_1, 1, none⟩)) 1 rfl (by kernel_rfl) (.inr ⟨hb_4, trivial⟩) (fun _ => (x_fld (o' := 1) Try.underlying34 rfl ty9 rfl rfl rfl)) ?_
        refine RT.take (v := .string ((o).name)) 2 rfl (by kernel_rfl) ⟨hb_4, trivial⟩ (by rintro _ ⟨hb_4, -⟩; exact (x_ld (v := .string ((o).name)) ty9 rfl rfl (hb_4.cl.field (i := 1) rfl))) ?_
        refine RT.takeP (v := .slice (ab) (b.length) (cb)) 3 rfl (by kernel_rfl) (.inr ⟨hb_4, trivial⟩) (fun _ => (x_moveSl rfl)) ?_
        refine RT.takeP (v := .pointer (some ⟨x, 0, none⟩)) 5 rfl (by kernel_rfl) (.inr ⟨hb_4, trivial⟩) (fun _ => (x_moveP rfl)) ?_
        refine RT.takeP (v := .pointer (some ⟨b_1, 1, none⟩)) 6 rfl (by kernel_rfl) (.inr ⟨hb_4, trivial⟩) (fun _ => (x_fld (o' := 1) Try.underlying34 rfl ty9 rfl rfl rfl)) ?_
        refine RT.take (v := .string ((o).name)) 7 rfl (by kernel_rfl) ⟨hb_4, trivial⟩ (by rintro _ ⟨hb_4, -⟩; exact (x_ld (v := .string ((o).name)) ty9 rfl rfl (hb_4.cl.field (i := 1) rfl))) ?_
        refine RT.takeP (v := .pointer (some ⟨b_1, 3, none⟩)) 8 rfl (by kernel_rfl) (.inr ⟨hb_4, trivial⟩) (fun _ => (x_fld (o' := 3) Try.underlying34 rfl ty26 rfl rfl rfl)) ?_
        refine RT.take (v := .slice (o.bytes.a) (b.length) (o.bytes.cap)) 9 rfl (by kernel_rfl) ⟨hb_4, trivial⟩ (by rintro _ ⟨hb_4, -⟩; exact (litSl (m' := b.length) (x_ld (v := .slice ((o).bytes.a) ((o).bytes.len) ((o).bytes.cap)) ty26 rfl rfl (hb_4.cl.field (i := 3) rfl)) h0.bl)) ?_
        refine RT.st 4 rfl (by kernel_rfl) rfl <| St1.call (vals := [.pointer (some ⟨d, 0, none⟩), .string ((o).name), .slice (ab) (b.length) (cb)]) en19 rfl (appendD hD ((o).name) _ _ _ (by first | omega | decide) (hob.keep K0 hdb) (fun x_ hx_ h_ => hdb x_ hx_ (Or.inl h_)) (by first | omega | decide)) ?_
        rintro _ w_142 ⟨F_141, rfl, hD_143, hm_144, K_145⟩
        have hm1_hD_143 : MovedS w F1 F_141 := hm1_hD.trans hm_144 K0.size
        have pr_146 : ∀ q_, F_141 q_ → ¬ F2 q_ := hm_144.apart hap hR.own_lt
        have pr_147 : ¬ F_141 b_1 := hm_144.not pr_6 hb_4.lt
        have pg_148 : ∀ q_, F_141 q_ → q_ < w.heap.size → (fun q => F1 q ∨ F2 q) q_ := hm_144.inS (fun q_ h_ _ => Or.inl h_) K0.size
        replace hR := hR.keepO K_145 (fun q_ h1 h2 => hap q_ h2 h1)
        replace hb_4 := hb_4.keep K_145 pr_6
        replace K0 := K0.trans K_145 (fun x hlt hx => (fun q_ h_ _ => Or.inl h_) x hx hlt)
        clear hm_144
        have hNn_hD_143 : ∀ q_, F_141 q_ → w0.heap.size ≤ q_ := fun q_ h_ => (hm1_hD_143 q_ h_).elim (fun y_ => hN q_ (Or.inl y_)) (fun y_ => Nat.le_trans k0.size y_)
        refine ⟨.inr ⟨hb_4, trivial⟩, ?_⟩
        refine RT.st 10 rfl (by kernel_rfl) rfl <| St1.call (vals := [.pointer (some ⟨x, 0, none⟩), .string ((o).name), .slice (o.bytes.a) (b.length) (o.bytes.cap)]) en52 rfl (appendRA hR ((o).name) _ _ _ (by first | omega | decide) (h0.bs.ext (k0.new K0 hN)) (far h0.bs (fun q_ h_ => hNn_hR q_ h_)) (by first | omega | decide)) ?_
        rintro _ w_150 ⟨F_149, rfl, hR_151, hm_152, K_153⟩
        have hm2_hR_151 : MovedS w F2 F_149 := hm2_hR.trans hm_152 K0.size
        have pr_154 : ¬ F_149 b_1 := hm_152.not pr_7 hb_4.lt
        have pr_155 : ∀ q_, F_149 q_ → ¬ F_141 q_ := hm_152.apart (fun q_ h1 h2 => pr_146 q_ h2 h1) hD_143.own_lt
        have pg_156 : ∀ q_, F_149 q_ → q_ < w.heap.size → (fun q => F1 q ∨ F2 q) q_ := hm_152.inS (fun q_ h_ _ => Or.inr h_) K0.size
        replace hb_4 := hb_4.keep K_153 pr_7
        replace hD_143 := hD_143.keepO K_153 pr_146
        replace K0 := K0.trans K_153 (fun x hlt hx => (fun q_ h_ _ => Or.inr h_) x hx hlt)
        clear hm_152
        have hNn_hR_151 : ∀ q_, F_149 q_ → w0.heap.size ≤ q_ := fun q_ h_ => (hm2_hR_151 q_ h_).elim (fun y_ => hN q_ (Or.inr y_)) (fun y_ => Nat.le_trans k0.size y_)
        refine ⟨.inr ⟨hb_4, trivial⟩, ?_⟩
        refine RT.takeP (v := .bool ((appE room pl ((o).name) b) == (appE room pl ((o).name) b))) 11 rfl (by kernel_rfl) (.inr ⟨hb_4, trivial⟩) (fun _ => (x_eqI rfl rfl)) ?_
        refine RT.takeP (v := .bool ((appE room pl ((o).name) b) == (appE room pl ((o).name) b))) 12 rfl (by kernel_rfl) (.inr ⟨hb_4, trivial⟩) (fun _ => (x_assignB rfl)) ?_
        refine RT.done (by kernel_rfl) ?_
        refine Run.ret1 (v := .bool ((appE room pl ((o).name) b) == (appE room pl ((o).name) b))) Try.func43 rfl rfl ?_
        have he : stepX room pl ⟨o.op, o.name, o.other, b, pts⟩ = appL room pl ((o).name) b := by
          unfold stepX stepL
          simp only
          repeat' split
          all_goals first | rfl | (exfalso; omega)
        refine ⟨_, rfl, by simp, F_141, F_149, by rw [he]; exact hD_143, by rw [he]; exact hR_151, hm1_hD_143, hm2_hR_151, (fun q_ h1 h2 => pr_155 q_ h2 h1), K0⟩
      · try simp only [br] at hc19
        refine Run.seq ?_
        refine Run.region ?_
        refine RL.val (x_eqI rfl rfl) ?_
        refine RL.val (x_assignB rfl) ?_
        refine RL.nil ?_
        refine Run.cond rfl (fun hc35 => ?_) (fun hc35 => ?_)
        · try simp only [br] at hc35
          refine Run.seq ?_
          refine Run.drawT [] (m := 10) (by kernel_rfl) rfl ?_
          intro w_157 K_158
          replace hD := hD.ext K_158
          replace hR := hR.ext K_158
          replace ht1 := ht1.ext K_158
          replace hb_4 := hb_4.ext K_158
          replace K0 := K0.ext K_158
          refine ⟨fun w' => Blk w' b_1 [.int .i64 ((o).op), .string ((o).name), .string ((o).other), .slice ((o).bytes.a) ((o).bytes.len) ((o).bytes.cap), .slice ((o).tears.a) ((o).tears.len) ((o).tears.cap)] 34 ∧ True, ?_⟩
          refine RT.takeP (v := .pointer (some ⟨d, 0, none⟩)) 0 rfl (by kernel_rfl) (.inr ⟨hb_4, trivial⟩) (fun _ => (x_moveP rfl)) ?_
          refine RT.takeP (v := .pointer (some ⟨b_1, 1, none⟩)) 1 rfl (by kernel_rfl) (.inr ⟨hb_4, trivial⟩) (fun _ => (x_fld (o' := 1) Try.underlying34 rfl ty9 rfl rfl rfl)) ?_
          refine RT.take (v := .string ((o).name)) 2 rfl (by kernel_rfl) ⟨hb_4, trivial⟩ (by rintro _ ⟨hb_4, -⟩; exact (x_ld (v := .string ((o).name)) ty9 rfl rfl (hb_4.cl.field (i := 1) rfl))) ?_
          refine RT.takeP (v := .pointer (some ⟨x, 0, none⟩)) 4 rfl (by kernel_rfl) (.inr ⟨hb_4, trivial⟩) (fun _ => (x_moveP rfl)) ?_
          refine RT.takeP (v := .pointer (some ⟨b_1, 1, none⟩)) 5 rfl (by kernel_rfl) (.inr ⟨hb_4, trivial⟩) (fun _ => (x_fld (o' := 1) Try.underlying34 rfl ty9 rfl rfl rfl)) ?_
          refine RT.take (v := .string ((o).name)) 6 rfl (by kernel_rfl) ⟨hb_4, trivial⟩ (by rintro _ ⟨hb_4, -⟩; exact (x_ld (v := .string ((o).name)) ty9 rfl rfl (hb_4.cl.field (i := 1) rfl))) ?_
          refine RT.st 3 rfl (by kernel_rfl) rfl <| St1.call (vals := [.pointer (some ⟨d, 0, none⟩), .string ((o).name)]) en20 rfl (syncD hD ((o).name) (by first | omega | decide)) ?_
          rintro _ w_160 ⟨F_159, rfl, hD_161, hm_162, K_163⟩
          have hm1_hD_161 : MovedS w F1 F_159 := hm1_hD.trans hm_162 K0.size
          have pr_164 : ∀ q_, F_159 q_ → ¬ F2 q_ := hm_162.apart hap hR.own_lt
          have pr_165 : ¬ F_159 b_1 := hm_162.not pr_6 hb_4.lt
          have pg_166 : ∀ q_, F_159 q_ → q_ < w.heap.size → (fun q => F1 q ∨ F2 q) q_ := hm_162.inS (fun q_ h_ _ => Or.inl h_) K0.size
          replace hR := hR.keepO K_163 (fun q_ h1 h2 => hap q_ h2 h1)
          replace hb_4 := hb_4.keep K_163 pr_6
          replace K0 := K0.trans K_163 (fun x hlt hx => (fun q_ h_ _ => Or.inl h_) x hx hlt)
          clear hm_162
          have hNn_hD_161 : ∀ q_, F_159 q_ → w0.heap.size ≤ q_ := fun q_ h_ => (hm1_hD_161 q_ h_).elim (fun y_ => hN q_ (Or.inl y_)) (fun y_ => Nat.le_trans k0.size y_)
          refine ⟨.inr ⟨hb_4, trivial⟩, ?_⟩
          refine RT.st 7 rfl (by kernel_rfl) rfl <| St1.call (vals := [.pointer (some ⟨x, 0, none⟩), .string ((o).name)]) en53 rfl (syncRA hR ((o).name) (by first | omega | decide)) ?_
          rintro _ w_168 ⟨F_167, rfl, hR_169, hm_170, K_171⟩
          have hm2_hR_169 : MovedS w F2 F_167 := hm2_hR.trans hm_170 K0.size
          have pr_172 : ¬ F_167 b_1 := hm_170.not pr_7 hb_4.lt
          have pr_173 : ∀ q_, F_167 q_ → ¬ F_159 q_ := hm_170.apart (fun q_ h1 h2 => pr_164 q_ h2 h1) hD_161.own_lt
          have pg_174 : ∀ q_, F_167 q_ → q_ < w.heap.size → (fun q => F1 q ∨ F2 q) q_ := hm_170.inS (fun q_ h_ _ => Or.inr h_) K0.size
          replace hb_4 := hb_4.keep K_171 pr_7
          replace hD_161 := hD_161.keepO K_171 pr_164
          replace K0 := K0.trans K_171 (fun x hlt hx => (fun q_ h_ _ => Or.inr h_) x hx hlt)
          clear hm_170
          have hNn_hR_169 : ∀ q_, F_167 q_ → w0.heap.size ≤ q_ := fun q_ h_ => (hm2_hR_169 q_ h_).elim (fun y_ => hN q_ (Or.inr y_)) (fun y_ => Nat.le_trans k0.size y_)
          refine ⟨.inr ⟨hb_4, trivial⟩, ?_⟩
          refine RT.takeP (v := .bool ((lookE pl ((o).name)) == (lookE pl ((o).name)))) 8 rfl (by kernel_rfl) (.inr ⟨hb_4, trivial⟩) (fun _ => (x_eqI rfl rfl)) ?_
          refine RT.takeP (v := .bool ((lookE pl ((o).name)) == (lookE pl ((o).name)))) 9 rfl (by kernel_rfl) (.inr ⟨hb_4, trivial⟩) (fun _ => (x_assignB rfl)) ?_
          refine RT.done (by kernel_rfl) ?_
          refine Run.ret1 (v := .bool ((lookE pl ((o).name)) == (lookE pl ((o).name)))) Try.func43 rfl rfl ?_
          have he : stepX room pl ⟨o.op, o.name, o.other, b, pts⟩ = syncL pl ((o).name) := by
            unfold stepX stepL
            simp only
            repeat' split
            all_goals first | rfl | (exfalso; omega)
          refine ⟨_, rfl, by simp, F_159, F_167, by rw [he]; exact hD_161, by rw [he]; exact hR_169, hm1_hD_161, hm2_hR_169, (fun q_ h1 h2 => pr_173 q_ h2 h1), K0⟩
        · try simp only [br] at hc35
          refine Run.seq ?_
          refine Run.region ?_
          refine RL.val (x_eqI rfl rfl) ?_
          refine RL.val (x_assignB rfl) ?_
          refine RL.nil ?_
          refine Run.cond rfl (fun hc46 => ?_) (fun hc46 => ?_)
          · try simp only [br] at hc46
            refine Run.seq ?_
            refine Run.drawT [] (m := 14) (by kernel_rfl) rfl ?_
            intro w_175 K_176
            replace hD := hD.ext K_176
            replace hR := hR.ext K_176
            replace ht1 := ht1.ext K_176
            replace hb_4 := hb_4.ext K_176
            replace K0 := K0.ext K_176
            refine ⟨fun w' => Blk w' b_1 [.int .i64 ((o).op), .string ((o).name), .string ((o).other), .slice ((o).bytes.a) ((o).bytes.len) ((o).bytes.cap), .slice ((o).tears.a) ((o).tears.len) ((o).tears.cap)] 34 ∧ True, ?_⟩
            refine RT.takeP (v := .pointer (some ⟨d, 0, none⟩)) 0 rfl (by kernel_rfl) (.inr ⟨hb_4, trivial⟩) (fun _ => (x_moveP rfl)) ?_
            refine RT.takeP (v := .pointer (some ⟨b_1, 1, none⟩)) 1 rfl (by kernel_rfl) (.inr ⟨hb_4, trivial⟩) (fun _ => (x_fld (o' := 1) Try.underlying34 rfl ty9 rfl rfl rfl)) ?_
            refine RT.take (v := .string ((o).name)) 2 rfl (by kernel_rfl) ⟨hb_4, trivial⟩ (by rintro _ ⟨hb_4, -⟩; exact (x_ld (v := .string ((o).name)) ty9 rfl rfl (hb_4.cl.field (i := 1) rfl))) ?_
            refine RT.takeP (v := .pointer (some ⟨b_1, 2, none⟩)) 3 rfl (by kernel_rfl) (.inr ⟨hb_4, trivial⟩) (fun _ => (x_fld (o' := 2) Try.underlying34 rfl ty9 rfl rfl rfl)) ?_
            refine RT.take (v := .string ((o).other)) 4 rfl (by kernel_rfl) ⟨hb_4, trivial⟩ (by rintro _ ⟨hb_4, -⟩; exact (x_ld (v := .string ((o).other)) ty9 rfl rfl (hb_4.cl.field (i := 2) rfl))) ?_
            refine RT.takeP (v := .pointer (some ⟨x, 0, none⟩)) 6 rfl (by kernel_rfl) (.inr ⟨hb_4, trivial⟩) (fun _ => (x_moveP rfl)) ?_
            refine RT.takeP (v := .pointer (some ⟨b_1, 1, none⟩)) 7 rfl (by kernel_rfl) (.inr ⟨hb_4, trivial⟩) (fun _ => (x_fld (o' := 1) Try.underlying34 rfl ty9 rfl rfl rfl)) ?_
            refine RT.take (v := .string ((o).name)) 8 rfl (by kernel_rfl) ⟨hb_4, trivial⟩ (by rintro _ ⟨hb_4, -⟩; exact (x_ld (v := .string ((o).name)) ty9 rfl rfl (hb_4.cl.field (i := 1) rfl))) ?_
            refine RT.takeP (v := .pointer (some ⟨b_1, 2, none⟩)) 9 rfl (by kernel_rfl) (.inr ⟨hb_4, trivial⟩) (fun _ => (x_fld (o' := 2) Try.underlying34 rfl ty9 rfl rfl rfl)) ?_
            refine RT.take (v := .string ((o).other)) 10 rfl (by kernel_rfl) ⟨hb_4, trivial⟩ (by rintro _ ⟨hb_4, -⟩; exact (x_ld (v := .string ((o).other)) ty9 rfl rfl (hb_4.cl.field (i := 2) rfl))) ?_
            refine RT.st 5 rfl (by kernel_rfl) rfl <| St1.call (vals := [.pointer (some ⟨d, 0, none⟩), .string ((o).name), .string ((o).other)]) en21 rfl (renameD hD ((o).name) ((o).other) (by first | omega | decide) (by first | omega | decide)) ?_
            rintro _ w_178 ⟨F_177, rfl, hD_179, hm_180, K_181⟩
            have hm1_hD_179 : MovedS w F1 F_177 := hm1_hD.trans hm_180 K0.size
            have pr_182 : ∀ q_, F_177 q_ → ¬ F2 q_ := hm_180.apart hap hR.own_lt
            have pr_183 : ¬ F_177 b_1 := hm_180.not pr_6 hb_4.lt
            have pg_184 : ∀ q_, F_177 q_ → q_ < w.heap.size → (fun q => F1 q ∨ F2 q) q_ := hm_180.inS (fun q_ h_ _ => Or.inl h_) K0.size
            replace hR := hR.keepO K_181 (fun q_ h1 h2 => hap q_ h2 h1)
            replace hb_4 := hb_4.keep K_181 pr_6
            replace K0 := K0.trans K_181 (fun x hlt hx => (fun q_ h_ _ => Or.inl h_) x hx hlt)
            clear hm_180
            have hNn_hD_179 : ∀ q_, F_177 q_ → w0.heap.size ≤ q_ := fun q_ h_ => (hm1_hD_179 q_ h_).elim (fun y_ => hN q_ (Or.inl y_)) (fun y_ => Nat.le_trans k0.size y_)
            refine ⟨.inr ⟨hb_4, trivial⟩, ?_⟩
            refine RT.st 11 rfl (by kernel_rfl) rfl <| St1.call (vals := [.pointer (some ⟨x, 0, none⟩), .string ((o).name), .string ((o).other)]) en54 rfl (renameRA hR ((o).name) ((o).other) (by first | omega | decide) (by first | omega | decide)) ?_
            rintro _ w_186 ⟨F_185, rfl, hR_187, hm_188, K_189⟩
            have hm2_hR_187 : MovedS w F2 F_185 := hm2_hR.trans hm_188 K0.size
            have pr_190 : ¬ F_185 b_1 := hm_188.not pr_7 hb_4.lt
            have pr_191 : ∀ q_, F_185 q_ → ¬ F_177 q_ := hm_188.apart (fun q_ h1 h2 => pr_182 q_ h2 h1) hD_179.own_lt
            have pg_192 : ∀ q_, F_185 q_ → q_ < w.heap.size → (fun q => F1 q ∨ F2 q) q_ := hm_188.inS (fun q_ h_ _ => Or.inr h_) K0.size
            replace hb_4 := hb_4.keep K_189 pr_7
            replace hD_179 := hD_179.keepO K_189 pr_182
            replace K0 := K0.trans K_189 (fun x hlt hx => (fun q_ h_ _ => Or.inr h_) x hx hlt)
            clear hm_188
            have hNn_hR_187 : ∀ q_, F_185 q_ → w0.heap.size ≤ q_ := fun q_ h_ => (hm2_hR_187 q_ h_).elim (fun y_ => hN q_ (Or.inr y_)) (fun y_ => Nat.le_trans k0.size y_)
            refine ⟨.inr ⟨hb_4, trivial⟩, ?_⟩
            refine RT.takeP (v := .bool ((renE pl ((o).name) ((o).other)) == (renE pl ((o).name) ((o).other)))) 12 rfl (by kernel_rfl) (.inr ⟨hb_4, trivial⟩) (fun _ => (x_eqI rfl rfl)) ?_
            refine RT.takeP (v := .bool ((renE pl ((o).name) ((o).other)) == (renE pl ((o).name) ((o).other)))) 13 rfl (by kernel_rfl) (.inr ⟨hb_4, trivial⟩) (fun _ => (x_assignB rfl)) ?_
            refine RT.done (by kernel_rfl) ?_
            refine Run.ret1 (v := .bool ((renE pl ((o).name) ((o).other)) == (renE pl ((o).name) ((o).other)))) Try.func43 rfl rfl ?_
            have he : stepX room pl ⟨o.op, o.name, o.other, b, pts⟩ = renL pl ((o).name) ((o).other) := by
              unfold stepX stepL
              simp only
              repeat' split
              all_goals first | rfl | (exfalso; omega)
            refine ⟨_, rfl, by simp, F_177, F_185, by rw [he]; exact hD_179, by rw [he]; exact hR_187, hm1_hD_179, hm2_hR_187, (fun q_ h1 h2 => pr_191 q_ h2 h1), K0⟩
          · try simp only [br] at hc46
            refine Run.seq ?_
            refine Run.region ?_
            refine RL.val (x_eqI rfl rfl) ?_
            refine RL.val (x_assignB rfl) ?_
            refine RL.nil ?_
            refine Run.cond rfl (fun hc61 => ?_) (fun hc61 => ?_)
            · try simp only [br] at hc61
              refine Run.seq ?_
              refine Run.drawT [] (m := 10) (by kernel_rfl) rfl ?_
              intro w_193 K_194
              replace hD := hD.ext K_194
              replace hR := hR.ext K_194
              replace ht1 := ht1.ext K_194
              replace hb_4 := hb_4.ext K_194
              replace K0 := K0.ext K_194
              refine ⟨fun w' => Blk w' b_1 [.int .i64 ((o).op), .string ((o).name), .string ((o).other), .slice ((o).bytes.a) ((o).bytes.len) ((o).bytes.cap), .slice ((o).tears.a) ((o).tears.len) ((o).tears.cap)] 34 ∧ True, ?_⟩
              refine RT.takeP (v := .pointer (some ⟨d, 0, none⟩)) 0 rfl (by kernel_rfl) (.inr ⟨hb_4, trivial⟩) (fun _ => (x_moveP rfl)) ?_
              refine RT.takeP (v := .pointer (some ⟨b_1, 1, none⟩)) 1 rfl (by kernel_rfl) (.inr ⟨hb_4, trivial⟩) (fun _ => (x_fld (o' := 1) Try.underlying34 rfl ty9 rfl rfl rfl)) ?_
              refine RT.take (v := .string ((o).name)) 2 rfl (by kernel_rfl) ⟨hb_4, trivial⟩ (by rintro _ ⟨hb_4, -⟩; exact (x_ld (v := .string ((o).name)) ty9 rfl rfl (hb_4.cl.field (i := 1) rfl))) ?_
              refine RT.takeP (v := .pointer (some ⟨x, 0, none⟩)) 4 rfl (by kernel_rfl) (.inr ⟨hb_4, trivial⟩) (fun _ => (x_moveP rfl)) ?_
              refine RT.takeP (v := .pointer (some ⟨b_1, 1, none⟩)) 5 rfl (by kernel_rfl) (.inr ⟨hb_4, trivial⟩) (fun _ => (x_fld (o' := 1) Try.underlying34 rfl ty9 rfl rfl rfl)) ?_
              refine RT.take (v := .string ((o).name)) 6 rfl (by kernel_rfl) ⟨hb_4, trivial⟩ (by rintro _ ⟨hb_4, -⟩; exact (x_ld (v := .string ((o).name)) ty9 rfl rfl (hb_4.cl.field (i := 1) rfl))) ?_
              refine RT.st 3 rfl (by kernel_rfl) rfl <| St1.call (vals := [.pointer (some ⟨d, 0, none⟩), .string ((o).name)]) en22 rfl (removeD hD ((o).name) (by first | omega | decide)) ?_
              rintro _ w_196 ⟨F_195, rfl, hD_197, hm_198, K_199⟩
              have hm1_hD_197 : MovedS w F1 F_195 := hm1_hD.trans hm_198 K0.size
              have pr_200 : ∀ q_, F_195 q_ → ¬ F2 q_ := hm_198.apart hap hR.own_lt
              have pr_201 : ¬ F_195 b_1 := hm_198.not pr_6 hb_4.lt
              have pg_202 : ∀ q_, F_195 q_ → q_ < w.heap.size → (fun q => F1 q ∨ F2 q) q_ := hm_198.inS (fun q_ h_ _ => Or.inl h_) K0.size
              replace hR := hR.keepO K_199 (fun q_ h1 h2 => hap q_ h2 h1)
              replace hb_4 := hb_4.keep K_199 pr_6
              replace K0 := K0.trans K_199 (fun x hlt hx => (fun q_ h_ _ => Or.inl h_) x hx hlt)
              clear hm_198
              have hNn_hD_197 : ∀ q_, F_195 q_ → w0.heap.size ≤ q_ := fun q_ h_ => (hm1_hD_197 q_ h_).elim (fun y_ => hN q_ (Or.inl y_)) (fun y_ => Nat.le_trans k0.size y_)
              refine ⟨.inr ⟨hb_4, trivial⟩, ?_⟩
              refine RT.st 7 rfl (by kernel_rfl) rfl <| St1.call (vals := [.pointer (some ⟨x, 0, none⟩), .string ((o).name)]) en55 rfl (removeRA hR ((o).name) (by first | omega | decide)) ?_
              rintro _ w_204 ⟨F_203, rfl, hR_205, hm_206, K_207⟩
              have hm2_hR_205 : MovedS w F2 F_203 := hm2_hR.trans hm_206 K0.size
              have pr_208 : ¬ F_203 b_1 := hm_206.not pr_7 hb_4.lt
              have pr_209 : ∀ q_, F_203 q_ → ¬ F_195 q_ := hm_206.apart (fun q_ h1 h2 => pr_200 q_ h2 h1) hD_197.own_lt
              have pg_210 : ∀ q_, F_203 q_ → q_ < w.heap.size → (fun q => F1 q ∨ F2 q) q_ := hm_206.inS (fun q_ h_ _ => Or.inr h_) K0.size
              replace hb_4 := hb_4.keep K_207 pr_7
              replace hD_197 := hD_197.keepO K_207 pr_200
              replace K0 := K0.trans K_207 (fun x hlt hx => (fun q_ h_ _ => Or.inr h_) x hx hlt)
              clear hm_206
              have hNn_hR_205 : ∀ q_, F_203 q_ → w0.heap.size ≤ q_ := fun q_ h_ => (hm2_hR_205 q_ h_).elim (fun y_ => hN q_ (Or.inr y_)) (fun y_ => Nat.le_trans k0.size y_)
              refine ⟨.inr ⟨hb_4, trivial⟩, ?_⟩
              refine RT.takeP (v := .bool ((lookE pl ((o).name)) == (lookE pl ((o).name)))) 8 rfl (by kernel_rfl) (.inr ⟨hb_4, trivial⟩) (fun _ => (x_eqI rfl rfl)) ?_
              refine RT.takeP (v := .bool ((lookE pl ((o).name)) == (lookE pl ((o).name)))) 9 rfl (by kernel_rfl) (.inr ⟨hb_4, trivial⟩) (fun _ => (x_assignB rfl)) ?_
              refine RT.done (by kernel_rfl) ?_
              refine Run.ret1 (v := .bool ((lookE pl ((o).name)) == (lookE pl ((o).name)))) Try.func43 rfl rfl ?_
              have he : stepX room pl ⟨o.op, o.name, o.other, b, pts⟩ = remL pl ((o).name) := by
                unfold stepX stepL
                simp only
                repeat' split
                all_goals first | rfl | (exfalso; omega)
              refine ⟨_, rfl, by simp, F_195, F_203, by rw [he]; exact hD_197, by rw [he]; exact hR_205, hm1_hD_197, hm2_hR_205, (fun q_ h1 h2 => pr_209 q_ h2 h1), K0⟩
            · try simp only [br] at hc61
              refine Run.seq ?_
              refine Run.region ?_
              refine RL.val (x_eqI rfl rfl) ?_
              refine RL.val (x_assignB rfl) ?_
              refine RL.nil ?_
              refine Run.cond rfl (fun hc72 => ?_) (fun hc72 => ?_)
              · try simp only [br] at hc72
                refine Run.seq ?_
                refine Run.drawT [] (m := 9) (by kernel_rfl) rfl ?_
                intro w_211 K_212
                replace hD := hD.ext K_212
                replace hR := hR.ext K_212
                replace ht1 := ht1.ext K_212
                replace hb_4 := hb_4.ext K_212
                replace K0 := K0.ext K_212
                refine ⟨fun w' => Blk w' b_1 [.int .i64 ((o).op), .string ((o).name), .string ((o).other), .slice ((o).bytes.a) ((o).bytes.len) ((o).bytes.cap), .slice ((o).tears.a) ((o).tears.len) ((o).tears.cap)] 34 ∧ True, ?_⟩
                refine RT.takeP (v := .pointer (some ⟨d, 0, none⟩)) 0 rfl (by kernel_rfl) (.inr ⟨hb_4, trivial⟩) (fun _ => (x_moveP rfl)) ?_
                refine RT.takeP (v := .slice (at1) (ts1.length) (ct)) 1 rfl (by kernel_rfl) (.inr ⟨hb_4, trivial⟩) (fun _ => (x_moveSl rfl)) ?_
                refine RT.takeP (v := .pointer (some ⟨x, 0, none⟩)) 3 rfl (by kernel_rfl) (.inr ⟨hb_4, trivial⟩) (fun _ => (x_moveP rfl)) ?_
                refine RT.takeP (v := .pointer (some ⟨b_1, 4, none⟩)) 4 rfl (by kernel_rfl) (.inr ⟨hb_4, trivial⟩) (fun _ => (x_fld (o' := 4) Try.underlying34 rfl ty32 rfl rfl rfl)) ?_
                refine RT.take (v := .slice (o.tears.a) (ts0.length) (o.tears.cap)) 5 rfl (by kernel_rfl) ⟨hb_4, trivial⟩ (by rintro _ ⟨hb_4, -⟩; exact (litSl (m' := ts0.length) (x_ld (v := .slice ((o).tears.a) ((o).tears.len) ((o).tears.cap)) ty32 rfl rfl (hb_4.cl.field (i := 4) rfl)) htl0)) ?_
                refine RT.st 2 rfl (by kernel_rfl) rfl <| St1.call (vals := [.pointer (some ⟨d, 0, none⟩), .slice (at1) (ts1.length) (ct)]) en23 rfl (crashD hD _ _ _ pts (hot.keepN K0 hdt) ht1 (by first | omega | decide)) ?_
                rintro _ w_214 ⟨F_213, rfl, hD_215, hm_216, K_217⟩
                have hm1_hD_215 : MovedS w F1 F_213 := hm1_hD.trans hm_216 K0.size
                have pr_218 : ∀ q_, F_213 q_ → ¬ F2 q_ := hm_216.apart hap hR.own_lt
                have pr_219 : ¬ F_213 b_1 := hm_216.not pr_6 hb_4.lt
                have pg_220 : ∀ q_, F_213 q_ → q_ < w.heap.size → (fun q => F1 q ∨ F2 q) q_ := hm_216.inS (fun q_ h_ _ => Or.inl h_) K0.size
                replace hR := hR.keepO K_217 (fun q_ h1 h2 => hap q_ h2 h1)
                replace hb_4 := hb_4.keep K_217 pr_6
                replace K0 := K0.trans K_217 (fun x hlt hx => (fun q_ h_ _ => Or.inl h_) x hx hlt)
                clear hm_216
                have hNn_hD_215 : ∀ q_, F_213 q_ → w0.heap.size ≤ q_ := fun q_ h_ => (hm1_hD_215 q_ h_).elim (fun y_ => hN q_ (Or.inl y_)) (fun y_ => Nat.le_trans k0.size y_)
                refine ⟨.inr ⟨hb_4, trivial⟩, ?_⟩
                refine RT.st 6 rfl (by kernel_rfl) rfl <| St1.call (vals := [.pointer (some ⟨x, 0, none⟩), .slice (o.tears.a) (ts0.length) (o.tears.cap)]) en56 rfl (crashRA hR _ _ _ pts (hts0.ext (k0.new K0 hN)) (htt0.ext (k0.new K0 hN)) (far hts0 (fun q_ h_ => hNn_hR q_ h_)) (farj htt0 (fun q_ h_ => hNn_hR q_ h_)) (by first | omega | decide)) ?_
                rintro _ w_222 ⟨F_221, rfl, hR_223, hm_224, K_225⟩
                have hm2_hR_223 : MovedS w F2 F_221 := hm2_hR.trans hm_224 K0.size
                have pr_226 : ¬ F_221 b_1 := hm_224.not pr_7 hb_4.lt
                have pr_227 : ∀ q_, F_221 q_ → ¬ F_213 q_ := hm_224.apart (fun q_ h1 h2 => pr_218 q_ h2 h1) hD_215.own_lt
                have pg_228 : ∀ q_, F_221 q_ → q_ < w.heap.size → (fun q => F1 q ∨ F2 q) q_ := hm_224.inS (fun q_ h_ _ => Or.inr h_) K0.size
                replace hb_4 := hb_4.keep K_225 pr_7
                replace hD_215 := hD_215.keepO K_225 pr_218
                replace K0 := K0.trans K_225 (fun x hlt hx => (fun q_ h_ _ => Or.inr h_) x hx hlt)
                clear hm_224
                have hNn_hR_223 : ∀ q_, F_221 q_ → w0.heap.size ≤ q_ := fun q_ h_ => (hm2_hR_223 q_ h_).elim (fun y_ => hN q_ (Or.inr y_)) (fun y_ => Nat.le_trans k0.size y_)
                refine ⟨.inr ⟨hb_4, trivial⟩, ?_⟩
                refine RT.takeP (v := .bool ((tornE pl pts []) == (tornE pl pts []))) 7 rfl (by kernel_rfl) (.inr ⟨hb_4, trivial⟩) (fun _ => (x_eqI rfl rfl)) ?_
                refine RT.takeP (v := .bool ((tornE pl pts []) == (tornE pl pts []))) 8 rfl (by kernel_rfl) (.inr ⟨hb_4, trivial⟩) (fun _ => (x_assignB rfl)) ?_
                refine RT.done (by kernel_rfl) ?_
                refine Run.ret1 (v := .bool ((tornE pl pts []) == (tornE pl pts []))) Try.func43 rfl rfl ?_
                have he : stepX room pl ⟨o.op, o.name, o.other, b, pts⟩ = crashL pl pts := by
                  unfold stepX stepL
                  simp only
                  repeat' split
                  all_goals first | rfl | (exfalso; omega)
                refine ⟨_, rfl, by simp, F_213, F_221, by rw [he]; exact hD_215, by rw [he]; exact hR_223, hm1_hD_215, hm2_hR_223, (fun q_ h1 h2 => pr_227 q_ h2 h1), K0⟩
              · try simp only [br] at hc72
                refine Run.skip ?_
                refine Run.inBlock ?_
                refine Run.seq ?_
                refine Run.seq ?_
                refine Run.region ?_
                refine RL.val (x_fld (o' := 3) Try.underlying34 rfl ty26 rfl rfl rfl) ?_
                refine RL.val (litSl (m' := b.length) (x_ld (v := .slice ((o).bytes.a) ((o).bytes.len) ((o).bytes.cap)) ty26 rfl rfl (hb_4.cl.field (i := 3) rfl)) h0.bl) ?_
                refine RL.val (x_lenSl Try.underlying26 rfl) ?_
                refine RL.val (x_ltI rfl rfl) ?_
                refine RL.nil ?_
                refine Run.cond rfl (fun hc85 => ?_) (fun hc85 => ?_)
                · try simp only [br] at hc85
                  refine Run.seq ?_
                  refine Run.region ?_
                  refine RL.val (x_moveP rfl) ?_
                  refine RL.st rfl <| St1.call (vals := [.pointer (some ⟨x, 0, none⟩)]) en57 rfl (wipeRA hR) ?_
                  rintro _ w_230 ⟨rfl, F_229, hR_231, hm_232, K_233⟩
                  have hm2_hR_231 : MovedS w F2 F_229 := hm2_hR.trans hm_232 K0.size
                  have pr_234 : ∀ q_, F_229 q_ → ¬ F1 q_ := hm_232.apart (fun q_ h1 h2 => hap q_ h2 h1) hD.own_lt
                  have pr_235 : ¬ F_229 b_1 := hm_232.not pr_7 hb_4.lt
                  have pg_236 : ∀ q_, F_229 q_ → q_ < w.heap.size → (fun q => F1 q ∨ F2 q) q_ := hm_232.inS (fun q_ h_ _ => Or.inr h_) K0.size
                  replace hD := hD.keepO K_233 hap
                  replace hb_4 := hb_4.keep K_233 pr_7
                  replace K0 := K0.trans K_233 (fun x hlt hx => (fun q_ h_ _ => Or.inr h_) x hx hlt)
                  clear hm_232
                  have hNn_hR_231 : ∀ q_, F_229 q_ → w0.heap.size ≤ q_ := fun q_ h_ => (hm2_hR_231 q_ h_).elim (fun y_ => hN q_ (Or.inr y_)) (fun y_ => Nat.le_trans k0.size y_)
                  refine RL.nil ?_
                  refine Run.seq ?_
                  refine Run.region ?_
                  refine RL.val (x_moveP rfl) ?_
                  refine RL.st rfl <| St1.call (vals := [.pointer (some ⟨d, 0, none⟩)]) en25 rfl (wipeD hD ) ?_
                  rintro _ w_238 ⟨F_237, rfl, hD_239, hm_240, K_241⟩
                  have hm1_hD_239 : MovedS w F1 F_237 := hm1_hD.trans hm_240 K0.size
                  have pr_242 : ¬ F_237 b_1 := hm_240.not pr_6 hb_4.lt
                  have pr_243 : ∀ q_, F_237 q_ → ¬ F_229 q_ := hm_240.apart (fun q_ h1 h2 => pr_234 q_ h2 h1) hR_231.own_lt
                  have pg_244 : ∀ q_, F_237 q_ → q_ < w.heap.size → (fun q => F1 q ∨ F2 q) q_ := hm_240.inS (fun q_ h_ _ => Or.inl h_) K0.size
                  replace hb_4 := hb_4.keep K_241 pr_6
                  replace hR_231 := hR_231.keepO K_241 pr_234
                  replace K0 := K0.trans K_241 (fun x hlt hx => (fun q_ h_ _ => Or.inl h_) x hx hlt)
                  clear hm_240
                  have hNn_hD_239 : ∀ q_, F_237 q_ → w0.heap.size ≤ q_ := fun q_ h_ => (hm1_hD_239 q_ h_).elim (fun y_ => hN q_ (Or.inl y_)) (fun y_ => Nat.le_trans k0.size y_)
                  refine RL.val (litT (x_eqI rfl rfl) (by decide)) ?_
                  refine RL.val (x_assignB rfl) ?_
                  refine RL.nil ?_
                  refine Run.ret1 (v := .bool (true)) Try.func43 rfl rfl ?_
                  have he : stepX room pl ⟨o.op, o.name, o.other, b, pts⟩ = [] := by
                    unfold stepX stepL
                    simp only
                    repeat' split
                    all_goals first | rfl | (exfalso; omega)
                  refine ⟨_, rfl, by simp, F_237, F_229, by rw [he]; exact hD_239, by rw [he]; exact hR_231, hm1_hD_239, hm2_hR_231, pr_243, K0⟩
                · try simp only [br] at hc85
                  refine Run.skip ?_
                  refine Run.seq ?_
                  refine Run.region ?_
                  refine RL.val (x_moveP rfl) ?_
                  refine RL.val (x_fld (o' := 1) Try.underlying34 rfl ty9 rfl rfl rfl) ?_
                  refine RL.val (x_ld (v := .string ((o).name)) ty9 rfl rfl (hb_4.cl.field (i := 1) rfl)) ?_
                  refine RL.st rfl <| St1.call (vals := [.pointer (some ⟨d, 0, none⟩), .string ((o).name)]) en12 rfl (readD hD ((o).name) (by first | omega | decide)) ?_
                  rintro _ w_247 ⟨a_245, c_246, rfl, ho_248, hg_249, K_250⟩
                  have pr_251 : ∀ q_, own a_245 q_ → ¬ F1 q_ := apartNew hg_249 hD.own_lt
                  have pr_252 : ∀ q_, own a_245 q_ → ¬ F2 q_ := apartNew hg_249 hR.own_lt
                  have pr_253 : ¬ own a_245 b_1 := notNew hg_249 hb_4.lt
                  have pg_254 : ∀ q_, own a_245 q_ → q_ < w.heap.size → (fun q => F1 q ∨ F2 q) q_ := fun q_ h hlt => absurd (Nat.le_trans K0.size (hg_249 q_ h)) (by omega)
                  have pw_255 : ∀ q_, own a_245 q_ → w.heap.size ≤ q_ := fun q_ h => Nat.le_trans K0.size (hg_249 q_ h)
                  clear hg_249
                  replace hD := hD.ext K_250
                  replace hR := hR.ext K_250
                  replace ht1 := ht1.ext K_250
                  replace hb_4 := hb_4.ext K_250
                  replace K0 := K0.ext K_250
                  refine RL.val (x_moveT rfl) ?_
                  refine RL.val (x_extract rfl rfl) ?_
                  refine RL.val (x_extract rfl rfl) ?_
                  refine RL.val (x_assignSl rfl) ?_
                  refine RL.val (x_assignI rfl) ?_
                  refine RL.nil ?_
                  refine Run.seq ?_
                  refine Run.region ?_
                  refine RL.val (x_moveP rfl) ?_
                  refine RL.val (x_fld (o' := 1) Try.underlying34 rfl ty9 rfl rfl rfl) ?_
                  refine RL.val (x_ld (v := .string ((o).name)) ty9 rfl rfl (hb_4.cl.field (i := 1) rfl)) ?_
                  refine RL.st rfl <| St1.call (vals := [.pointer (some ⟨x, 0, none⟩), .string ((o).name)]) en58 rfl (readRA hR ((o).name) (by first | omega | decide)) ?_
                  rintro _ w_258 ⟨a_256, c_257, rfl, ho_259, hg_260, K_261⟩
                  have pr_262 : ∀ q_, own a_256 q_ → ¬ F1 q_ := apartNew hg_260 hD.own_lt
                  have pr_263 : ∀ q_, own a_256 q_ → ¬ F2 q_ := apartNew hg_260 hR.own_lt
                  have pr_264 : ¬ own a_256 b_1 := notNew hg_260 hb_4.lt
                  have pr_265 : ∀ q_, own a_256 q_ → ¬ own a_245 q_ := apartNew hg_260 ho_248.own_lt
                  have pg_266 : ∀ q_, own a_256 q_ → q_ < w.heap.size → (fun q => F1 q ∨ F2 q) q_ := fun q_ h hlt => absurd (Nat.le_trans K0.size (hg_260 q_ h)) (by omega)
                  have pw_267 : ∀ q_, own a_256 q_ → w.heap.size ≤ q_ := fun q_ h => Nat.le_trans K0.size (hg_260 q_ h)
                  clear hg_260
                  replace hD := hD.ext K_261
                  replace hR := hR.ext K_261
                  replace ht1 := ht1.ext K_261
                  replace hb_4 := hb_4.ext K_261
                  replace ho_248 := ho_248.ext K_261
                  replace K0 := K0.ext K_261
                  refine RL.val (x_moveT rfl) ?_
                  refine RL.val (x_extract rfl rfl) ?_
                  refine RL.val (x_extract rfl rfl) ?_
                  refine RL.val (x_assignSl rfl) ?_
                  refine RL.val (x_assignI rfl) ?_
                  refine RL.nil ?_
                  refine Run.seq ?_
                  have hrbl := read_len hD.ok o.name
                  refine Run.region ?_
                  refine RL.val (x_moveI rfl) ?_
                  refine RL.val (x_moveI rfl) ?_
                  refine RL.val (x_eqI rfl rfl) ?_
                  refine RL.val (x_moveB rfl) ?_
                  refine RL.gval (wantedT rfl rfl rfl rfl) (fun hg => (x_moveSl rfl)) ?_
                  refine RL.gval (wantedT rfl rfl rfl rfl) (fun hg => (x_moveSl rfl)) ?_
                  refine RL.gcall (vals := [.slice (a_245) ((readB pl ((o).name)).length) (c_246), .slice (a_256) ((readB pl ((o).name)).length) (c_257)]) (wantedT rfl rfl rfl rfl) en47 (fun hg => (mcons (gvr hg) (mcons (gvr hg) mnil))) (fun hg => (equal_byte _ _ _ _ _ _ _ ho_248.sl ho_259.sl (by omega))) ?_
                  intro w_268 K_269
                  replace hD := hD.ext K_269
                  replace hR := hR.ext K_269
                  replace ht1 := ht1.ext K_269
                  replace hb_4 := hb_4.ext K_269
                  replace ho_248 := ho_248.ext K_269
                  replace ho_259 := ho_259.ext K_269
                  replace K0 := K0.ext K_269
                  refine RL.val (x_and rfl rfl rfl) ?_
                  refine RL.val (x_assignB rfl) ?_
                  refine RL.nil ?_
                  refine Run.ret1 (v := .bool (((lookE pl ((o).name)) == (lookE pl ((o).name))) && (decide (readB pl ((o).name) = readB pl ((o).name))))) Try.func43 rfl rfl ?_
                  have he : stepX room pl ⟨o.op, o.name, o.other, b, pts⟩ = pl := by
                    unfold stepX stepL
                    simp only
                    repeat' split
                    all_goals first | rfl | (exfalso; omega)
                  refine ⟨_, rfl, by simp, F1, F2, by rw [he]; exact hD, by rw [he]; exact hR, hm1_hD, hm2_hR, hap, K0⟩
    · try simp only [br] at hc19
      refine Run.region ?_
      refine RL.val (x_eqI rfl rfl) ?_
      refine RL.val (x_assignB rfl) ?_
      refine RL.nil ?_
      refine Run.cond rfl (fun hc19 => ?_) (fun hc19 => ?_)
      · try simp only [br] at hc19
        refine Run.seq ?_
        refine Run.drawT [] (m := 13) (by kernel_rfl) rfl ?_
        intro w_270 K_271
        replace hD := hD.ext K_271
        replace hR := hR.ext K_271
        replace ht1 := ht1.ext K_271
        replace hb_4 := hb_4.ext K_271
        replace K0 := K0.ext K_271
        refine ⟨fun w' => Blk w' b_1 [.int .i64 ((o).op), .string ((o).name), .string ((o).other), .slice ((o).bytes.a) ((o).bytes.len) ((o).bytes.cap), .slice ((o).tears.a) ((o).tears.len) ((o).tears.cap)] 34 ∧ True, ?_⟩
        refine RT.takeP (v := .pointer (some ⟨d, 0, none⟩)) 0 rfl (by kernel_rfl) (.inr ⟨hb_4, trivial⟩) (fun _ => (x_moveP rfl)) ?_
        refine RT.takeP (v := .pointer (some ⟨b_1, 1, none⟩)) 1 rfl (by kernel_rfl) (.inr ⟨hb_4, trivial⟩) (fun _ => (x_fld (o' := 1) Try.underlying34 rfl ty9 rfl rfl rfl)) ?_
        refine RT.take (v := .string ((o).name)) 2 rfl (by kernel_rfl) ⟨hb_4, trivial⟩ (by rintro _ ⟨hb_4, -⟩; exact (x_ld (v := .string ((o).name)) ty9 rfl rfl (hb_4.cl.field (i := 1) rfl))) ?_
        refine RT.takeP (v := .slice (ab) (b.length) (cb)) 3 rfl (by kernel_rfl) (.inr ⟨hb_4, trivial⟩) (fun _ => (x_moveSl rfl)) ?_
        refine RT.takeP (v := .pointer (some ⟨x, 0, none⟩)) 5 rfl (by kernel_rfl) (.inr ⟨hb_4, trivial⟩) (fun _ => (x_moveP rfl)) ?_
        refine RT.takeP (v := .pointer (some ⟨b_1, 1, none⟩)) 6 rfl (by kernel_rfl) (.inr ⟨hb_4, trivial⟩) (fun _ => (x_fld (o' := 1) Try.underlying34 rfl ty9 rfl rfl rfl)) ?_
        refine RT.take (v := .string ((o).name)) 7 rfl (by kernel_rfl) ⟨hb_4, trivial⟩ (by rintro _ ⟨hb_4, -⟩; exact (x_ld (v := .string ((o).name)) ty9 rfl rfl (hb_4.cl.field (i := 1) rfl))) ?_
        refine RT.takeP (v := .pointer (some ⟨b_1, 3, none⟩)) 8 rfl (by kernel_rfl) (.inr ⟨hb_4, trivial⟩) (fun _ => (x_fld (o' := 3) Try.underlying34 rfl ty26 rfl rfl rfl)) ?_
        refine RT.take (v := .slice (o.bytes.a) (b.length) (o.bytes.cap)) 9 rfl (by kernel_rfl) ⟨hb_4, trivial⟩ (by rintro _ ⟨hb_4, -⟩; exact (litSl (m' := b.length) (x_ld (v := .slice ((o).bytes.a) ((o).bytes.len) ((o).bytes.cap)) ty26 rfl rfl (hb_4.cl.field (i := 3) rfl)) h0.bl)) ?_
        refine RT.st 4 rfl (by kernel_rfl) rfl <| St1.call (vals := [.pointer (some ⟨d, 0, none⟩), .string ((o).name), .slice (ab) (b.length) (cb)]) en19 rfl (appendD hD ((o).name) _ _ _ (by first | omega | decide) (hob.keep K0 hdb) (fun x_ hx_ h_ => hdb x_ hx_ (Or.inl h_)) (by first | omega | decide)) ?_
        rintro _ w_273 ⟨F_272, rfl, hD_274, hm_275, K_276⟩
        have hm1_hD_274 : MovedS w F1 F_272 := hm1_hD.trans hm_275 K0.size
        have pr_277 : ∀ q_, F_272 q_ → ¬ F2 q_ := hm_275.apart hap hR.own_lt
        have pr_278 : ¬ F_272 b_1 := hm_275.not pr_6 hb_4.lt
        have pg_279 : ∀ q_, F_272 q_ → q_ < w.heap.size → (fun q => F1 q ∨ F2 q) q_ := hm_275.inS (fun q_ h_ _ => Or.inl h_) K0.size
        replace hR := hR.keepO K_276 (fun q_ h1 h2 => hap q_ h2 h1)
        replace hb_4 := hb_4.keep K_276 pr_6
        replace K0 := K0.trans K_276 (fun x hlt hx => (fun q_ h_ _ => Or.inl h_) x hx hlt)
        clear hm_275
        have hNn_hD_274 : ∀ q_, F_272 q_ → w0.heap.size ≤ q_ := fun q_ h_ => (hm1_hD_274 q_ h_).elim (fun y_ => hN q_ (Or.inl y_)) (fun y_ => Nat.le_trans k0.size y_)
        refine ⟨.inr ⟨hb_4, trivial⟩, ?_⟩
        refine RT.st 10 rfl (by kernel_rfl) rfl <| St1.call (vals := [.pointer (some ⟨x, 0, none⟩), .string ((o).name), .slice (o.bytes.a) (b.length) (o.bytes.cap)]) en52 rfl (appendRA hR ((o).name) _ _ _ (by first | omega | decide) (h0.bs.ext (k0.new K0 hN)) (far h0.bs (fun q_ h_ => hNn_hR q_ h_)) (by first | omega | decide)) ?_
        rintro _ w_281 ⟨F_280, rfl, hR_282, hm_283, K_284⟩
        have hm2_hR_282 : MovedS w F2 F_280 := hm2_hR.trans hm_283 K0.size
        have pr_285 : ¬ F_280 b_1 := hm_283.not pr_7 hb_4.lt
        have pr_286 : ∀ q_, F_280 q_ → ¬ F_272 q_ := hm_283.apart (fun q_ h1 h2 => pr_277 q_ h2 h1) hD_274.own_lt
        have pg_287 : ∀ q_, F_280 q_ → q_ < w.heap.size → (fun q => F1 q ∨ F2 q) q_ := hm_283.inS (fun q_ h_ _ => Or.inr h_) K0.size
        replace hb_4 := hb_4.keep K_284 pr_7
        replace hD_274 := hD_274.keepO K_284 pr_277
        replace K0 := K0.trans K_284 (fun x hlt hx => (fun q_ h_ _ => Or.inr h_) x hx hlt)
        clear hm_283
        have hNn_hR_282 : ∀ q_, F_280 q_ → w0.heap.size ≤ q_ := fun q_ h_ => (hm2_hR_282 q_ h_).elim (fun y_ => hN q_ (Or.inr y_)) (fun y_ => Nat.le_trans k0.size y_)
        refine ⟨.inr ⟨hb_4, trivial⟩, ?_⟩
        refine RT.takeP (v := .bool ((appE room pl ((o).name) b) == (appE room pl ((o).name) b))) 11 rfl (by kernel_rfl) (.inr ⟨hb_4, trivial⟩) (fun _ => (x_eqI rfl rfl)) ?_
        refine RT.takeP (v := .bool ((appE room pl ((o).name) b) == (appE room pl ((o).name) b))) 12 rfl (by kernel_rfl) (.inr ⟨hb_4, trivial⟩) (fun _ => (x_assignB rfl)) ?_
        refine RT.done (by kernel_rfl) ?_
        refine Run.ret1 (v := .bool ((appE room pl ((o).name) b) == (appE room pl ((o).name) b))) Try.func43 rfl rfl ?_
        have he : stepX room pl ⟨o.op, o.name, o.other, b, pts⟩ = appL room pl ((o).name) b := by
          unfold stepX stepL
          simp only
          repeat' split
          all_goals first | rfl | (exfalso; omega)
        refine ⟨_, rfl, by simp, F_272, F_280, by rw [he]; exact hD_274, by rw [he]; exact hR_282, hm1_hD_274, hm2_hR_282, (fun q_ h1 h2 => pr_286 q_ h2 h1), K0⟩
      · try simp only [br] at hc19
        refine Run.seq ?_
        refine Run.region ?_
        refine RL.val (x_eqI rfl rfl) ?_
        refine RL.val (x_assignB rfl) ?_
        refine RL.nil ?_
        refine Run.cond rfl (fun hc35 => ?_) (fun hc35 => ?_)
        · try simp only [br] at hc35
          refine Run.seq ?_
          refine Run.drawT [] (m := 10) (by kernel_rfl) rfl ?_
          intro w_288 K_289
          replace hD := hD.ext K_289
          replace hR := hR.ext K_289
          replace ht1 := ht1.ext K_289
          replace hb_4 := hb_4.ext K_289
          replace K0 := K0.ext K_289
          refine ⟨fun w' => Blk w' b_1 [.int .i64 ((o).op), .string ((o).name), .string ((o).other), .slice ((o).bytes.a) ((o).bytes.len) ((o).bytes.cap), .slice ((o).tears.a) ((o).tears.len) ((o).tears.cap)] 34 ∧ True, ?_⟩
          refine RT.takeP (v := .pointer (some ⟨d, 0, none⟩)) 0 rfl (by kernel_rfl) (.inr ⟨hb_4, trivial⟩) (fun _ => (x_moveP rfl)) ?_
          refine RT.takeP (v := .pointer (some ⟨b_1, 1, none⟩)) 1 rfl (by kernel_rfl) (.inr ⟨hb_4, trivial⟩) (fun _ => (x_fld (o' := 1) Try.underlying34 rfl ty9 rfl rfl rfl)) ?_
          refine RT.take (v := .string ((o).name)) 2 rfl (by kernel_rfl) ⟨hb_4, trivial⟩ (by rintro _ ⟨hb_4, -⟩; exact (x_ld (v := .string ((o).name)) ty9 rfl rfl (hb_4.cl.field (i := 1) rfl))) ?_
          refine RT.takeP (v := .pointer (some ⟨x, 0, none⟩)) 4 rfl (by kernel_rfl) (.inr ⟨hb_4, trivial⟩) (fun _ => (x_moveP rfl)) ?_
          refine RT.takeP (v := .pointer (some ⟨b_1, 1, none⟩)) 5 rfl (by kernel_rfl) (.inr ⟨hb_4, trivial⟩) (fun _ => (x_fld (o' := 1) Try.underlying34 rfl ty9 rfl rfl rfl)) ?_
          refine RT.take (v := .string ((o).name)) 6 rfl (by kernel_rfl) ⟨hb_4, trivial⟩ (by rintro _ ⟨hb_4, -⟩; exact (x_ld (v := .string ((o).name)) ty9 rfl rfl (hb_4.cl.field (i := 1) rfl))) ?_
          refine RT.st 3 rfl (by kernel_rfl) rfl <| St1.call (vals := [.pointer (some ⟨d, 0, none⟩), .string ((o).name)]) en20 rfl (syncD hD ((o).name) (by first | omega | decide)) ?_
          rintro _ w_291 ⟨F_290, rfl, hD_292, hm_293, K_294⟩
          have hm1_hD_292 : MovedS w F1 F_290 := hm1_hD.trans hm_293 K0.size
          have pr_295 : ∀ q_, F_290 q_ → ¬ F2 q_ := hm_293.apart hap hR.own_lt
          have pr_296 : ¬ F_290 b_1 := hm_293.not pr_6 hb_4.lt
          have pg_297 : ∀ q_, F_290 q_ → q_ < w.heap.size → (fun q => F1 q ∨ F2 q) q_ := hm_293.inS (fun q_ h_ _ => Or.inl h_) K0.size
          replace hR := hR.keepO K_294 (fun q_ h1 h2 => hap q_ h2 h1)
          replace hb_4 := hb_4.keep K_294 pr_6
          replace K0 := K0.trans K_294 (fun x hlt hx => (fun q_ h_ _ => Or.inl h_) x hx hlt)
          clear hm_293
          have hNn_hD_292 : ∀ q_, F_290 q_ → w0.heap.size ≤ q_ := fun q_ h_ => (hm1_hD_292 q_ h_).elim (fun y_ => hN q_ (Or.inl y_)) (fun y_ => Nat.le_trans k0.size y_)
          refine ⟨.inr ⟨hb_4, trivial⟩, ?_⟩
          refine RT.st 7 rfl (by kernel_rfl) rfl <| St1.call (vals := [.pointer (some ⟨x, 0, none⟩), .string ((o).name)]) en53 rfl (syncRA hR ((o).name) (by first | omega | decide)) ?_
          rintro _ w_299 ⟨F_298, rfl, hR_300, hm_301, K_302⟩
          have hm2_hR_300 : MovedS w F2 F_298 := hm2_hR.trans hm_301 K0.size
          have pr_303 : ¬ F_298 b_1 := hm_301.not pr_7 hb_4.lt
          have pr_304 : ∀ q_, F_298 q_ → ¬ F_290 q_ := hm_301.apart (fun q_ h1 h2 => pr_295 q_ h2 h1) hD_292.own_lt
          have pg_305 : ∀ q_, F_298 q_ → q_ < w.heap.size → (fun q => F1 q ∨ F2 q) q_ := hm_301.inS (fun q_ h_ _ => Or.inr h_) K0.size
          replace hb_4 := hb_4.keep K_302 pr_7
          replace hD_292 := hD_292.keepO K_302 pr_295
          replace K0 := K0.trans K_302 (fun x hlt hx => (fun q_ h_ _ => Or.inr h_) x hx hlt)
          clear hm_301
          have hNn_hR_300 : ∀ q_, F_298 q_ → w0.heap.size ≤ q_ := fun q_ h_ => (hm2_hR_300 q_ h_).elim (fun y_ => hN q_ (Or.inr y_)) (fun y_ => Nat.le_trans k0.size y_)
          refine ⟨.inr ⟨hb_4, trivial⟩, ?_⟩
          refine RT.takeP (v := .bool ((lookE pl ((o).name)) == (lookE pl ((o).name)))) 8 rfl (by kernel_rfl) (.inr ⟨hb_4, trivial⟩) (fun _ => (x_eqI rfl rfl)) ?_
          refine RT.takeP (v := .bool ((lookE pl ((o).name)) == (lookE pl ((o).name)))) 9 rfl (by kernel_rfl) (.inr ⟨hb_4, trivial⟩) (fun _ => (x_assignB rfl)) ?_
          refine RT.done (by kernel_rfl) ?_
          refine Run.ret1 (v := .bool ((lookE pl ((o).name)) == (lookE pl ((o).name)))) Try.func43 rfl rfl ?_
          have he : stepX room pl ⟨o.op, o.name, o.other, b, pts⟩ = syncL pl ((o).name) := by
            unfold stepX stepL
            simp only
            repeat' split
            all_goals first | rfl | (exfalso; omega)
          refine ⟨_, rfl, by simp, F_290, F_298, by rw [he]; exact hD_292, by rw [he]; exact hR_300, hm1_hD_292, hm2_hR_300, (fun q_ h1 h2 => pr_304 q_ h2 h1), K0⟩
        · try simp only [br] at hc35
          refine Run.seq ?_
          refine Run.region ?_
          refine RL.val (x_eqI rfl rfl) ?_
          refine RL.val (x_assignB rfl) ?_
          refine RL.nil ?_
          refine Run.cond rfl (fun hc46 => ?_) (fun hc46 => ?_)
          · try simp only [br] at hc46
            refine Run.seq ?_
            refine Run.drawT [] (m := 14) (by kernel_rfl) rfl ?_
            intro w_306 K_307
            replace hD := hD.ext K_307
            replace hR := hR.ext K_307
            replace ht1 := ht1.ext K_307
            replace hb_4 := hb_4.ext K_307
            replace K0 := K0.ext K_307
            refine ⟨fun w' => Blk w' b_1 [.int .i64 ((o).op), .string ((o).name), .string ((o).other), .slice ((o).bytes.a) ((o).bytes.len) ((o).bytes.cap), .slice ((o).tears.a) ((o).tears.len) ((o).tears.cap)] 34 ∧ True, ?_⟩
            refine RT.takeP (v := .pointer (some ⟨d, 0, none⟩)) 0 rfl (by kernel_rfl) (.inr ⟨hb_4, trivial⟩) (fun _ => (x_moveP rfl)) ?_
            refine RT.takeP (v := .pointer (some ⟨b_1, 1, none⟩)) 1 rfl (by kernel_rfl) (.inr ⟨hb_4, trivial⟩) (fun _ => (x_fld (o' := 1) Try.underlying34 rfl ty9 rfl rfl rfl)) ?_
            refine RT.take (v := .string ((o).name)) 2 rfl (by kernel_rfl) ⟨hb_4, trivial⟩ (by rintro _ ⟨hb_4, -⟩; exact (x_ld (v := .string ((o).name)) ty9 rfl rfl (hb_4.cl.field (i := 1) rfl))) ?_
            refine RT.takeP (v := .pointer (some ⟨b_1, 2, none⟩)) 3 rfl (by kernel_rfl) (.inr ⟨hb_4, trivial⟩) (fun _ => (x_fld (o' := 2) Try.underlying34 rfl ty9 rfl rfl rfl)) ?_
            refine RT.take (v := .string ((o).other)) 4 rfl (by kernel_rfl) ⟨hb_4, trivial⟩ (by rintro _ ⟨hb_4, -⟩; exact (x_ld (v := .string ((o).other)) ty9 rfl rfl (hb_4.cl.field (i := 2) rfl))) ?_
            refine RT.takeP (v := .pointer (some ⟨x, 0, none⟩)) 6 rfl (by kernel_rfl) (.inr ⟨hb_4, trivial⟩) (fun _ => (x_moveP rfl)) ?_
            refine RT.takeP (v := .pointer (some ⟨b_1, 1, none⟩)) 7 rfl (by kernel_rfl) (.inr ⟨hb_4, trivial⟩) (fun _ => (x_fld (o' := 1) Try.underlying34 rfl ty9 rfl rfl rfl)) ?_
            refine RT.take (v := .string ((o).name)) 8 rfl (by kernel_rfl) ⟨hb_4, trivial⟩ (by rintro _ ⟨hb_4, -⟩; exact (x_ld (v := .string ((o).name)) ty9 rfl rfl (hb_4.cl.field (i := 1) rfl))) ?_
            refine RT.takeP (v := .pointer (some ⟨b_1, 2, none⟩)) 9 rfl (by kernel_rfl) (.inr ⟨hb_4, trivial⟩) (fun _ => (x_fld (o' := 2) Try.underlying34 rfl ty9 rfl rfl rfl)) ?_
            refine RT.take (v := .string ((o).other)) 10 rfl (by kernel_rfl) ⟨hb_4, trivial⟩ (by rintro _ ⟨hb_4, -⟩; exact (x_ld (v := .string ((o).other)) ty9 rfl rfl (hb_4.cl.field (i := 2) rfl))) ?_
            refine RT.st 5 rfl (by kernel_rfl) rfl <| St1.call (vals := [.pointer (some ⟨d, 0, none⟩), .string ((o).name), .string ((o).other)]) en21 rfl (renameD hD ((o).name) ((o).other) (by first | omega | decide) (by first | omega | decide)) ?_
            rintro _ w_309 ⟨F_308, rfl, hD_310, hm_311, K_312⟩
            have hm1_hD_310 : MovedS w F1 F_308 := hm1_hD.trans hm_311 K0.size
            have pr_313 : ∀ q_, F_308 q_ → ¬ F2 q_ := hm_311.apart hap hR.own_lt
            have pr_314 : ¬ F_308 b_1 := hm_311.not pr_6 hb_4.lt
            have pg_315 : ∀ q_, F_308 q_ → q_ < w.heap.size → (fun q => F1 q ∨ F2 q) q_ := hm_311.inS (fun q_ h_ _ => Or.inl h_) K0.size
            replace hR := hR.keepO K_312 (fun q_ h1 h2 => hap q_ h2 h1)
            replace hb_4 := hb_4.keep K_312 pr_6
            replace K0 := K0.trans K_312 (fun x hlt hx => (fun q_ h_ _ => Or.inl h_) x hx hlt)
            clear hm_311
            have hNn_hD_310 : ∀ q_, F_308 q_ → w0.heap.size ≤ q_ := fun q_ h_ => (hm1_hD_310 q_ h_).elim (fun y_ => hN q_ (Or.inl y_)) (fun y_ => Nat.le_trans k0.size y_)
            refine ⟨.inr ⟨hb_4, trivial⟩, ?_⟩
            refine RT.st 11 rfl (by kernel_rfl) rfl <| St1.call (vals := [.pointer (some ⟨x, 0, none⟩), .string ((o).name), .string ((o).other)]) en54 rfl (renameRA hR ((o).name) ((o).other) (by first | omega | decide) (by first | omega | decide)) ?_
            rintro _ w_317 ⟨F_316, rfl, hR_318, hm_319, K_320⟩
            have hm2_hR_318 : MovedS w F2 F_316 := hm2_hR.trans hm_319 K0.size
            have pr_321 : ¬ F_316 b_1 := hm_319.not pr_7 hb_4.lt
            have pr_322 : ∀ q_, F_316 q_ → ¬ F_308 q_ := hm_319.apart (fun q_ h1 h2 => pr_313 q_ h2 h1) hD_310.own_lt
            have pg_323 : ∀ q_, F_316 q_ → q_ < w.heap.size → (fun q => F1 q ∨ F2 q) q_ := hm_319.inS (fun q_ h_ _ => Or.inr h_) K0.size
            replace hb_4 := hb_4.keep K_320 pr_7
            replace hD_310 := hD_310.keepO K_320 pr_313
            replace K0 := K0.trans K_320 (fun x hlt hx => (fun q_ h_ _ => Or.inr h_) x hx hlt)
            clear hm_319
            have hNn_hR_318 : ∀ q_, F_316 q_ → w0.heap.size ≤ q_ := fun q_ h_ => (hm2_hR_318 q_ h_).elim (fun y_ => hN q_ (Or.inr y_)) (fun y_ => Nat.le_trans k0.size y_)
            refine ⟨.inr ⟨hb_4, trivial⟩, ?_⟩
            refine RT.takeP (v := .bool ((renE pl ((o).name) ((o).other)) == (renE pl ((o).name) ((o).other)))) 12 rfl (by kernel_rfl) (.inr ⟨hb_4, trivial⟩) (fun _ => (x_eqI rfl rfl)) ?_
            refine RT.takeP (v := .bool ((renE pl ((o).name) ((o).other)) == (renE pl ((o).name) ((o).other)))) 13 rfl (by kernel_rfl) (.inr ⟨hb_4, trivial⟩) (fun _ => (x_assignB rfl)) ?_
            refine RT.done (by kernel_rfl) ?_
            refine Run.ret1 (v := .bool ((renE pl ((o).name) ((o).other)) == (renE pl ((o).name) ((o).other)))) Try.func43 rfl rfl ?_
            have he : stepX room pl ⟨o.op, o.name, o.other, b, pts⟩ = renL pl ((o).name) ((o).other) := by
              unfold stepX stepL
              simp only
              repeat' split
              all_goals first | rfl | (exfalso; omega)
            refine ⟨_, rfl, by simp, F_308, F_316, by rw [he]; exact hD_310, by rw [he]; exact hR_318, hm1_hD_310, hm2_hR_318, (fun q_ h1 h2 => pr_322 q_ h2 h1), K0⟩
          · try simp only [br] at hc46
            refine Run.seq ?_
            refine Run.region ?_
            refine RL.val (x_eqI rfl rfl) ?_
            refine RL.val (x_assignB rfl) ?_
            refine RL.nil ?_
            refine Run.cond rfl (fun hc61 => ?_) (fun hc61 => ?_)
            · try simp only [br] at hc61
              refine Run.seq ?_
              refine Run.drawT [] (m := 10) (by kernel_rfl) rfl ?_
              intro w_324 K_325
              replace hD := hD.ext K_325
              replace hR := hR.ext K_325
              replace ht1 := ht1.ext K_325
              replace hb_4 := hb_4.ext K_325
              replace K0 := K0.ext K_325
              refine ⟨fun w' => Blk w' b_1 [.int .i64 ((o).op), .string ((o).name), .string ((o).other), .slice ((o).bytes.a) ((o).bytes.len) ((o).bytes.cap), .slice ((o).tears.a) ((o).tears.len) ((o).tears.cap)] 34 ∧ True, ?_⟩
              refine RT.takeP (v := .pointer (some ⟨d, 0, none⟩)) 0 rfl (by kernel_rfl) (.inr ⟨hb_4, trivial⟩) (fun _ => (x_moveP rfl)) ?_
              refine RT.takeP (v := .pointer (some ⟨b_1, 1, none⟩)) 1 rfl (by kernel_rfl) (.inr ⟨hb_4, trivial⟩) (fun _ => (x_fld (o' := 1) Try.underlying34 rfl ty9 rfl rfl rfl)) ?_
              refine RT.take (v := .string ((o).name)) 2 rfl (by kernel_rfl) ⟨hb_4, trivial⟩ (by rintro _ ⟨hb_4, -⟩; exact (x_ld (v := .string ((o).name)) ty9 rfl rfl (hb_4.cl.field (i := 1) rfl))) ?_
              refine RT.takeP (v := .pointer (some ⟨x, 0, none⟩)) 4 rfl (by kernel_rfl) (.inr ⟨hb_4, trivial⟩) (fun _ => (x_moveP rfl)) ?_
              refine RT.takeP (v := .pointer (some ⟨b_1, 1, none⟩)) 5 rfl (by kernel_rfl) (.inr ⟨hb_4, trivial⟩) (fun _ => (x_fld (o' := 1) Try.underlying34 rfl ty9 rfl rfl rfl)) ?_
              refine RT.take (v := .string ((o).name)) 6 rfl (by kernel_rfl) ⟨hb_4, trivial⟩ (by rintro _ ⟨hb_4, -⟩; exact (x_ld (v := .string ((o).name)) ty9 rfl rfl (hb_4.cl.field (i := 1) rfl))) ?_
              refine RT.st 3 rfl (by kernel_rfl) rfl <| St1.call (vals := [.pointer (some ⟨d, 0, none⟩), .string ((o).name)]) en22 rfl (removeD hD ((o).name) (by first | omega | decide)) ?_
              rintro _ w_327 ⟨F_326, rfl, hD_328, hm_329, K_330⟩
              have hm1_hD_328 : MovedS w F1 F_326 := hm1_hD.trans hm_329 K0.size
              have pr_331 : ∀ q_, F_326 q_ → ¬ F2 q_ := hm_329.apart hap hR.own_lt
              have pr_332 : ¬ F_326 b_1 := hm_329.not pr_6 hb_4.lt
              have pg_333 : ∀ q_, F_326 q_ → q_ < w.heap.size → (fun q => F1 q ∨ F2 q) q_ := hm_329.inS (fun q_ h_ _ => Or.inl h_) K0.size
              replace hR := hR.keepO K_330 (fun q_ h1 h2 => hap q_ h2 h1)
              replace hb_4 := hb_4.keep K_330 pr_6
              replace K0 := K0.trans K_330 (fun x hlt hx => (fun q_ h_ _ => Or.inl h_) x hx hlt)
              clear hm_329
              have hNn_hD_328 : ∀ q_, F_326 q_ → w0.heap.size ≤ q_ := fun q_ h_ => (hm1_hD_328 q_ h_).elim (fun y_ => hN q_ (Or.inl y_)) (fun y_ => Nat.le_trans k0.size y_)
              refine ⟨.inr ⟨hb_4, trivial⟩, ?_⟩
              refine RT.st 7 rfl (by kernel_rfl) rfl <| St1.call (vals := [.pointer (some ⟨x, 0, none⟩), .string ((o).name)]) en55 rfl (removeRA hR ((o).name) (by first | omega | decide)) ?_
              rintro _ w_335 ⟨F_334, rfl, hR_336, hm_337, K_338⟩
              have hm2_hR_336 : MovedS w F2 F_334 := hm2_hR.trans hm_337 K0.size
              have pr_339 : ¬ F_334 b_1 := hm_337.not pr_7 hb_4.lt
              have pr_340 : ∀ q_, F_334 q_ → ¬ F_326 q_ := hm_337.apart (fun q_ h1 h2 => pr_331 q_ h2 h1) hD_328.own_lt
              have pg_341 : ∀ q_, F_334 q_ → q_ < w.heap.size → (fun q => F1 q ∨ F2 q) q_ := hm_337.inS (fun q_ h_ _ => Or.inr h_) K0.size
              replace hb_4 := hb_4.keep K_338 pr_7
              replace hD_328 := hD_328.keepO K_338 pr_331
              replace K0 := K0.trans K_338 (fun x hlt hx => (fun q_ h_ _ => Or.inr h_) x hx hlt)
              clear hm_337
              have hNn_hR_336 : ∀ q_, F_334 q_ → w0.heap.size ≤ q_ := fun q_ h_ => (hm2_hR_336 q_ h_).elim (fun y_ => hN q_ (Or.inr y_)) (fun y_ => Nat.le_trans k0.size y_)
              refine ⟨.inr ⟨hb_4, trivial⟩, ?_⟩
              refine RT.takeP (v := .bool ((lookE pl ((o).name)) == (lookE pl ((o).name)))) 8 rfl (by kernel_rfl) (.inr ⟨hb_4, trivial⟩) (fun _ => (x_eqI rfl rfl)) ?_
              refine RT.takeP (v := .bool ((lookE pl ((o).name)) == (lookE pl ((o).name)))) 9 rfl (by kernel_rfl) (.inr ⟨hb_4, trivial⟩) (fun _ => (x_assignB rfl)) ?_
              refine RT.done (by kernel_rfl) ?_
              refine Run.ret1 (v := .bool ((lookE pl ((o).name)) == (lookE pl ((o).name)))) Try.func43 rfl rfl ?_
              have he : stepX room pl ⟨o.op, o.name, o.other, b, pts⟩ = remL pl ((o).name) := by
                unfold stepX stepL
                simp only
                repeat' split
                all_goals first | rfl | (exfalso; omega)
              refine ⟨_, rfl, by simp, F_326, F_334, by rw [he]; exact hD_328, by rw [he]; exact hR_336, hm1_hD_328, hm2_hR_336, (fun q_ h1 h2 => pr_340 q_ h2 h1), K0⟩
            · try simp only [br] at hc61
              refine Run.seq ?_
              refine Run.region ?_
              refine RL.val (x_eqI rfl rfl) ?_
              refine RL.val (x_assignB rfl) ?_
              refine RL.nil ?_
              refine Run.cond rfl (fun hc72 => ?_) (fun hc72 => ?_)
              · try simp only [br] at hc72
                refine Run.seq ?_
                refine Run.drawT [] (m := 9) (by kernel_rfl) rfl ?_
                intro w_342 K_343
                replace hD := hD.ext K_343
                replace hR := hR.ext K_343
                replace ht1 := ht1.ext K_343
                replace hb_4 := hb_4.ext K_343
                replace K0 := K0.ext K_343
                refine ⟨fun w' => Blk w' b_1 [.int .i64 ((o).op), .string ((o).name), .string ((o).other), .slice ((o).bytes.a) ((o).bytes.len) ((o).bytes.cap), .slice ((o).tears.a) ((o).tears.len) ((o).tears.cap)] 34 ∧ True, ?_⟩
                refine RT.takeP (v := .pointer (some ⟨d, 0, none⟩)) 0 rfl (by kernel_rfl) (.inr ⟨hb_4, trivial⟩) (fun _ => (x_moveP rfl)) ?_
                refine RT.takeP (v := .slice (at1) (ts1.length) (ct)) 1 rfl (by kernel_rfl) (.inr ⟨hb_4, trivial⟩) (fun _ => (x_moveSl rfl)) ?_
                refine RT.takeP (v := .pointer (some ⟨x, 0, none⟩)) 3 rfl (by kernel_rfl) (.inr ⟨hb_4, trivial⟩) (fun _ => (x_moveP rfl)) ?_
                refine RT.takeP (v := .pointer (some ⟨b_1, 4, none⟩)) 4 rfl (by kernel_rfl) (.inr ⟨hb_4, trivial⟩) (fun _ => (x_fld (o' := 4) Try.underlying34 rfl ty32 rfl rfl rfl)) ?_
                refine RT.take (v := .slice (o.tears.a) (ts0.length) (o.tears.cap)) 5 rfl (by kernel_rfl) ⟨hb_4, trivial⟩ (by rintro _ ⟨hb_4, -⟩; exact (litSl (m' := ts0.length) (x_ld (v := .slice ((o).tears.a) ((o).tears.len) ((o).tears.cap)) ty32 rfl rfl (hb_4.cl.field (i := 4) rfl)) htl0)) ?_
                refine RT.st 2 rfl (by kernel_rfl) rfl <| St1.call (vals := [.pointer (some ⟨d, 0, none⟩), .slice (at1) (ts1.length) (ct)]) en23 rfl (crashD hD _ _ _ pts (hot.keepN K0 hdt) ht1 (by first | omega | decide)) ?_
                rintro _ w_345 ⟨F_344, rfl, hD_346, hm_347, K_348⟩
                have hm1_hD_346 : MovedS w F1 F_344 := hm1_hD.trans hm_347 K0.size
                have pr_349 : ∀ q_, F_344 q_ → ¬ F2 q_ := hm_347.apart hap hR.own_lt
                have pr_350 : ¬ F_344 b_1 := hm_347.not pr_6 hb_4.lt
                have pg_351 : ∀ q_, F_344 q_ → q_ < w.heap.size → (fun q => F1 q ∨ F2 q) q_ := hm_347.inS (fun q_ h_ _ => Or.inl h_) K0.size
                replace hR := hR.keepO K_348 (fun q_ h1 h2 => hap q_ h2 h1)
                replace hb_4 := hb_4.keep K_348 pr_6
                replace K0 := K0.trans K_348 (fun x hlt hx => (fun q_ h_ _ => Or.inl h_) x hx hlt)
                clear hm_347
                have hNn_hD_346 : ∀ q_, F_344 q_ → w0.heap.size ≤ q_ := fun q_ h_ => (hm1_hD_346 q_ h_).elim (fun y_ => hN q_ (Or.inl y_)) (fun y_ => Nat.le_trans k0.size y_)
                refine ⟨.inr ⟨hb_4, trivial⟩, ?_⟩
                refine RT.st 6 rfl (by kernel_rfl) rfl <| St1.call (vals := [.pointer (some ⟨x, 0, none⟩), .slice (o.tears.a) (ts0.length) (o.tears.cap)]) en56 rfl (crashRA hR _ _ _ pts (hts0.ext (k0.new K0 hN)) (htt0.ext (k0.new K0 hN)) (far hts0 (fun q_ h_ => hNn_hR q_ h_)) (farj htt0 (fun q_ h_ => hNn_hR q_ h_)) (by first | omega | decide)) ?_
                rintro _ w_353 ⟨F_352, rfl, hR_354, hm_355, K_356⟩
                have hm2_hR_354 : MovedS w F2 F_352 := hm2_hR.trans hm_355 K0.size
                have pr_357 : ¬ F_352 b_1 := hm_355.not pr_7 hb_4.lt
                have pr_358 : ∀ q_, F_352 q_ → ¬ F_344 q_ := hm_355.apart (fun q_ h1 h2 => pr_349 q_ h2 h1) hD_346.own_lt
                have pg_359 : ∀ q_, F_352 q_ → q_ < w.heap.size → (fun q => F1 q ∨ F2 q) q_ := hm_355.inS (fun q_ h_ _ => Or.inr h_) K0.size
                replace hb_4 := hb_4.keep K_356 pr_7
                replace hD_346 := hD_346.keepO K_356 pr_349
                replace K0 := K0.trans K_356 (fun x hlt hx => (fun q_ h_ _ => Or.inr h_) x hx hlt)
                clear hm_355
                have hNn_hR_354 : ∀ q_, F_352 q_ → w0.heap.size ≤ q_ := fun q_ h_ => (hm2_hR_354 q_ h_).elim (fun y_ => hN q_ (Or.inr y_)) (fun y_ => Nat.le_trans k0.size y_)
                refine ⟨.inr ⟨hb_4, trivial⟩, ?_⟩
                refine RT.takeP (v := .bool ((tornE pl pts []) == (tornE pl pts []))) 7 rfl (by kernel_rfl) (.inr ⟨hb_4, trivial⟩) (fun _ => (x_eqI rfl rfl)) ?_
                refine RT.takeP (v := .bool ((tornE pl pts []) == (tornE pl pts []))) 8 rfl (by kernel_rfl) (.inr ⟨hb_4, trivial⟩) (fun _ => (x_assignB rfl)) ?_
                refine RT.done (by kernel_rfl) ?_
                refine Run.ret1 (v := .bool ((tornE pl pts []) == (tornE pl pts []))) Try.func43 rfl rfl ?_
                have he : stepX room pl ⟨o.op, o.name, o.other, b, pts⟩ = crashL pl pts := by
                  unfold stepX stepL
                  simp only
                  repeat' split
                  all_goals first | rfl | (exfalso; omega)
                refine ⟨_, rfl, by simp, F_344, F_352, by rw [he]; exact hD_346, by rw [he]; exact hR_354, hm1_hD_346, hm2_hR_354, (fun q_ h1 h2 => pr_358 q_ h2 h1), K0⟩
              · try simp only [br] at hc72
                refine Run.skip ?_
                refine Run.inBlock ?_
                refine Run.seq ?_
                refine Run.seq ?_
                refine Run.region ?_
                refine RL.val (x_fld (o' := 3) Try.underlying34 rfl ty26 rfl rfl rfl) ?_
                refine RL.val (litSl (m' := b.length) (x_ld (v := .slice ((o).bytes.a) ((o).bytes.len) ((o).bytes.cap)) ty26 rfl rfl (hb_4.cl.field (i := 3) rfl)) h0.bl) ?_
                refine RL.val (x_lenSl Try.underlying26 rfl) ?_
                refine RL.val (x_ltI rfl rfl) ?_
                refine RL.nil ?_
                refine Run.cond rfl (fun hc85 => ?_) (fun hc85 => ?_)
                · try simp only [br] at hc85
                  refine Run.seq ?_
                  refine Run.region ?_
                  refine RL.val (x_moveP rfl) ?_
                  refine RL.st rfl <| St1.call (vals := [.pointer (some ⟨x, 0, none⟩)]) en57 rfl (wipeRA hR) ?_
                  rintro _ w_361 ⟨rfl, F_360, hR_362, hm_363, K_364⟩
                  have hm2_hR_362 : MovedS w F2 F_360 := hm2_hR.trans hm_363 K0.size
                  have pr_365 : ∀ q_, F_360 q_ → ¬ F1 q_ := hm_363.apart (fun q_ h1 h2 => hap q_ h2 h1) hD.own_lt
                  have pr_366 : ¬ F_360 b_1 := hm_363.not pr_7 hb_4.lt
                  have pg_367 : ∀ q_, F_360 q_ → q_ < w.heap.size → (fun q => F1 q ∨ F2 q) q_ := hm_363.inS (fun q_ h_ _ => Or.inr h_) K0.size
                  replace hD := hD.keepO K_364 hap
                  replace hb_4 := hb_4.keep K_364 pr_7
                  replace K0 := K0.trans K_364 (fun x hlt hx => (fun q_ h_ _ => Or.inr h_) x hx hlt)
                  clear hm_363
                  have hNn_hR_362 : ∀ q_, F_360 q_ → w0.heap.size ≤ q_ := fun q_ h_ => (hm2_hR_362 q_ h_).elim (fun y_ => hN q_ (Or.inr y_)) (fun y_ => Nat.le_trans k0.size y_)
                  refine RL.nil ?_
                  refine Run.seq ?_
                  refine Run.region ?_
                  refine RL.val (x_moveP rfl) ?_
                  refine RL.st rfl <| St1.call (vals := [.pointer (some ⟨d, 0, none⟩)]) en25 rfl (wipeD hD ) ?_
                  rintro _ w_369 ⟨F_368, rfl, hD_370, hm_371, K_372⟩
                  have hm1_hD_370 : MovedS w F1 F_368 := hm1_hD.trans hm_371 K0.size
                  have pr_373 : ¬ F_368 b_1 := hm_371.not pr_6 hb_4.lt
                  have pr_374 : ∀ q_, F_368 q_ → ¬ F_360 q_ := hm_371.apart (fun q_ h1 h2 => pr_365 q_ h2 h1) hR_362.own_lt
                  have pg_375 : ∀ q_, F_368 q_ → q_ < w.heap.size → (fun q => F1 q ∨ F2 q) q_ := hm_371.inS (fun q_ h_ _ => Or.inl h_) K0.size
                  replace hb_4 := hb_4.keep K_372 pr_6
                  replace hR_362 := hR_362.keepO K_372 pr_365
                  replace K0 := K0.trans K_372 (fun x hlt hx => (fun q_ h_ _ => Or.inl h_) x hx hlt)
                  clear hm_371
                  have hNn_hD_370 : ∀ q_, F_368 q_ → w0.heap.size ≤ q_ := fun q_ h_ => (hm1_hD_370 q_ h_).elim (fun y_ => hN q_ (Or.inl y_)) (fun y_ => Nat.le_trans k0.size y_)
                  refine RL.val (litT (x_eqI rfl rfl) (by decide)) ?_
                  refine RL.val (x_assignB rfl) ?_
                  refine RL.nil ?_
                  refine Run.ret1 (v := .bool (true)) Try.func43 rfl rfl ?_
                  have he : stepX room pl ⟨o.op, o.name, o.other, b, pts⟩ = [] := by
                    unfold stepX stepL
                    simp only
                    repeat' split
                    all_goals first | rfl | (exfalso; omega)
                  refine ⟨_, rfl, by simp, F_368, F_360, by rw [he]; exact hD_370, by rw [he]; exact hR_362, hm1_hD_370, hm2_hR_362, pr_374, K0⟩
                · try simp only [br] at hc85
                  refine Run.skip ?_
                  refine Run.seq ?_
                  refine Run.region ?_
                  refine RL.val (x_moveP rfl) ?_
                  refine RL.val (x_fld (o' := 1) Try.underlying34 rfl ty9 rfl rfl rfl) ?_
                  refine RL.val (x_ld (v := .string ((o).name)) ty9 rfl rfl (hb_4.cl.field (i := 1) rfl)) ?_
                  refine RL.st rfl <| St1.call (vals := [.pointer (some ⟨d, 0, none⟩), .string ((o).name)]) en12 rfl (readD hD ((o).name) (by first | omega | decide)) ?_
                  rintro _ w_378 ⟨a_376, c_377, rfl, ho_379, hg_380, K_381⟩
                  have pr_382 : ∀ q_, own a_376 q_ → ¬ F1 q_ := apartNew hg_380 hD.own_lt
                  have pr_383 : ∀ q_, own a_376 q_ → ¬ F2 q_ := apartNew hg_380 hR.own_lt
                  have pr_384 : ¬ own a_376 b_1 := notNew hg_380 hb_4.lt
                  have pg_385 : ∀ q_, own a_376 q_ → q_ < w.heap.size → (fun q => F1 q ∨ F2 q) q_ := fun q_ h hlt => absurd (Nat.le_trans K0.size (hg_380 q_ h)) (by omega)
                  have pw_386 : ∀ q_, own a_376 q_ → w.heap.size ≤ q_ := fun q_ h => Nat.le_trans K0.size (hg_380 q_ h)
                  clear hg_380
                  replace hD := hD.ext K_381
                  replace hR := hR.ext K_381
                  replace ht1 := ht1.ext K_381
                  replace hb_4 := hb_4.ext K_381
                  replace K0 := K0.ext K_381
                  refine RL.val (x_moveT rfl) ?_
                  refine RL.val (x_extract rfl rfl) ?_
                  refine RL.val (x_extract rfl rfl) ?_
                  refine RL.val (x_assignSl rfl) ?_
                  refine RL.val (x_assignI rfl) ?_
                  refine RL.nil ?_
                  refine Run.seq ?_
                  refine Run.region ?_
                  refine RL.val (x_moveP rfl) ?_
                  refine RL.val (x_fld (o' := 1) Try.underlying34 rfl ty9 rfl rfl rfl) ?_
                  refine RL.val (x_ld (v := .string ((o).name)) ty9 rfl rfl (hb_4.cl.field (i := 1) rfl)) ?_
                  refine RL.st rfl <| St1.call (vals := [.pointer (some ⟨x, 0, none⟩), .string ((o).name)]) en58 rfl (readRA hR ((o).name) (by first | omega | decide)) ?_
                  rintro _ w_389 ⟨a_387, c_388, rfl, ho_390, hg_391, K_392⟩
                  have pr_393 : ∀ q_, own a_387 q_ → ¬ F1 q_ := apartNew hg_391 hD.own_lt
                  have pr_394 : ∀ q_, own a_387 q_ → ¬ F2 q_ := apartNew hg_391 hR.own_lt
                  have pr_395 : ¬ own a_387 b_1 := notNew hg_391 hb_4.lt
                  have pr_396 : ∀ q_, own a_387 q_ → ¬ own a_376 q_ := apartNew hg_391 ho_379.own_lt
                  have pg_397 : ∀ q_, own a_387 q_ → q_ < w.heap.size → (fun q => F1 q ∨ F2 q) q_ := fun q_ h hlt => absurd (Nat.le_trans K0.size (hg_391 q_ h)) (by omega)
                  have pw_398 : ∀ q_, own a_387 q_ → w.heap.size ≤ q_ := fun q_ h => Nat.le_trans K0.size (hg_391 q_ h)
                  clear hg_391
                  replace hD := hD.ext K_392
                  replace hR := hR.ext K_392
                  replace ht1 := ht1.ext K_392
                  replace hb_4 := hb_4.ext K_392
                  replace ho_379 := ho_379.ext K_392
                  replace K0 := K0.ext K_392
                  refine RL.val (x_moveT rfl) ?_
                  refine RL.val (x_extract rfl rfl) ?_
                  refine RL.val (x_extract rfl rfl) ?_
                  refine RL.val (x_assignSl rfl) ?_
                  refine RL.val (x_assignI rfl) ?_
                  refine RL.nil ?_
                  refine Run.seq ?_
                  have hrbl := read_len hD.ok o.name
                  refine Run.region ?_
                  refine RL.val (x_moveI rfl) ?_
                  refine RL.val (x_moveI rfl) ?_
                  refine RL.val (x_eqI rfl rfl) ?_
                  refine RL.val (x_moveB rfl) ?_
                  refine RL.gval (wantedT rfl rfl rfl rfl) (fun hg => (x_moveSl rfl)) ?_
                  refine RL.gval (wantedT rfl rfl rfl rfl) (fun hg => (x_moveSl rfl)) ?_
                  refine RL.gcall (vals := [.slice (a_376) ((readB pl ((o).name)).length) (c_377), .slice (a_387) ((readB pl ((o).name)).length) (c_388)]) (wantedT rfl rfl rfl rfl) en47 (fun hg => (mcons (gvr hg) (mcons (gvr hg) mnil))) (fun hg => (equal_byte _ _ _ _ _ _ _ ho_379.sl ho_390.sl (by omega))) ?_
                  intro w_399 K_400
                  replace hD := hD.ext K_400
                  replace hR := hR.ext K_400
                  replace ht1 := ht1.ext K_400
                  replace hb_4 := hb_4.ext K_400
                  replace ho_379 := ho_379.ext K_400
                  replace ho_390 := ho_390.ext K_400
                  replace K0 := K0.ext K_400
                  refine RL.val (x_and rfl rfl rfl) ?_
                  refine RL.val (x_assignB rfl) ?_
                  refine RL.nil ?_
                  refine Run.ret1 (v := .bool (((lookE pl ((o).name)) == (lookE pl ((o).name))) && (decide (readB pl ((o).name) = readB pl ((o).name))))) Try.func43 rfl rfl ?_
                  have he : stepX room pl ⟨o.op, o.name, o.other, b, pts⟩ = pl := by
                    unfold stepX stepL
                    simp only
                    repeat' split
                    all_goals first | rfl | (exfalso; omega)
                  refine ⟨_, rfl, by simp, F1, F2, by rw [he]; exact hD, by rw [he]; exact hR, hm1_hD, hm2_hR, hap, K0⟩

end Go.Proofs.Ytambibdkanpmaaa
