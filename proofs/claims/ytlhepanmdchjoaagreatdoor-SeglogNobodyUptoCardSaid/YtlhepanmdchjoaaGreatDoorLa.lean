/-
  Layer 7: SeglogNobody.
-/
import Derived.Shelf.SortM.Plain
import Derived.Shelf.SortM.SortNone
import Derived.Ground.SlgmProg
import Derived.Test.YtlhepanmdchjoaaGreatDoorRows
import Derived.Test.YtlhepanmdchjoaaGreatDoorDk
namespace Go.Proofs.YtlhepanmdchjoaaGreatDoor
attribute [local irreducible] St1 RL RA RT RT1 Run

structure FilesC where
  d : Option Addr
structure LogC where
  files : FilesC
section
open Go.Shelf
def sortI_ren : Go.Shelf.Ren := ⟨fun | 5 => 85 | 8 => 103 | 7 => 102 | 19 => 131 | 20 => 132 | 10 => 122 | 11 => 123 | 12 => 124 | 13 => 125 | 14 => 126 | 15 => 127 | 16 => 128 | 17 => 129 | 18 => 130 | 30 => 151 | 31 => 152 | 32 => 153 | 33 => 154 | 34 => 155 | 35 => 156 | 40 => 167 | n => n, fun | 23 => 47 | 25 => 3 | 3 => 3 | 32 => 23 | 22 => 47 | 0 => 0 | 44 => 141 | 46 => 142 | 4 => 4 | 36 => 164 | 35 => 163 | 41 => 169 | 5 => 5 | 9 => 9 | 53 => 191 | 57 => 195 | 63 => 209 | 64 => 210 | n => n, fun | n => n⟩
theorem sortI : Go.Proofs.SlLaysM.n5 Tryz.prog sortI_ren := {
  mixed := by kernel_rfl
  f5 := ⟨Tryz.f85.name, by decide, Tryz.func85.trans (congrArg some (by kernel_rfl))⟩
  f7 := ⟨Tryz.f102.name, by decide, Tryz.func102.trans (congrArg some (by kernel_rfl))⟩
  f8 := Tryz.func103.trans (congrArg some (by kernel_rfl))
  f10 := ⟨Tryz.f122.name, by decide, Tryz.func122.trans (congrArg some (by kernel_rfl))⟩
  f11 := ⟨Tryz.f123.name, by decide, Tryz.func123.trans (congrArg some (by kernel_rfl))⟩
  f12 := ⟨Tryz.f124.name, by decide, Tryz.func124.trans (congrArg some (by kernel_rfl))⟩
  f13 := ⟨Tryz.f125.name, by decide, Tryz.func125.trans (congrArg some (by kernel_rfl))⟩
  f14 := ⟨Tryz.f126.name, by decide, Tryz.func126.trans (congrArg some (by kernel_rfl))⟩
  f15 := ⟨Tryz.f127.name, by decide, Tryz.func127.trans (congrArg some (by kernel_rfl))⟩
  f16 := ⟨Tryz.f128.name, by decide, Tryz.func128.trans (congrArg some (by kernel_rfl))⟩
  f17 := ⟨Tryz.f129.name, by decide, Tryz.func129.trans (congrArg some (by kernel_rfl))⟩
  f18 := ⟨Tryz.f130.name, by decide, Tryz.func130.trans (congrArg some (by kernel_rfl))⟩
  f19 := Tryz.func131.trans (congrArg some (by kernel_rfl))
  f20 := Tryz.func132.trans (congrArg some (by kernel_rfl))
  f30 := ⟨Tryz.f151.name, by decide, Tryz.func151.trans (congrArg some (by kernel_rfl))⟩
  f31 := Tryz.func152.trans (congrArg some (by kernel_rfl))
  f32 := Tryz.func153.trans (congrArg some (by kernel_rfl))
  f33 := ⟨Tryz.f154.name, by decide, Tryz.func154.trans (congrArg some (by kernel_rfl))⟩
  f34 := ⟨Tryz.f155.name, by decide, Tryz.func155.trans (congrArg some (by kernel_rfl))⟩
  f35 := ⟨Tryz.f156.name, by decide, Tryz.func156.trans (congrArg some (by kernel_rfl))⟩
  f40 := ⟨Tryz.f167.name, by decide, Tryz.func167.trans (congrArg some (by kernel_rfl))⟩
  t0 := Tryz.underlying0
  a0 := Tryz.isAgg0
  z0 := Tryz.sizeOf0
  v0 := Tryz.zeroValue0
  t3 := Tryz.underlying3
  a3 := Tryz.isAgg3
  z3 := Tryz.sizeOf3
  v3 := Tryz.zeroValue3
  t4 := Tryz.underlying4
  a4 := Tryz.isAgg4
  z4 := Tryz.sizeOf4
  v4 := Tryz.zeroValue4
  t5 := Tryz.underlying5
  a5 := Tryz.isAgg5
  z5 := Tryz.sizeOf5
  v5 := Tryz.zeroValue5
  t9 := Tryz.underlying9
  a9 := Tryz.isAgg9
  z9 := Tryz.sizeOf9
  v9 := Tryz.zeroValue9
  t22 := Tryz.underlying47
  a22 := Tryz.isAgg47
  z22 := Tryz.sizeOf47
  v22 := Tryz.zeroValue47
  t23 := Tryz.underlying47
  a23 := Tryz.isAgg47
  z23 := Tryz.sizeOf47
  v23 := Tryz.zeroValue47
  t25 := Tryz.underlying3
  a25 := Tryz.isAgg3
  z25 := Tryz.sizeOf3
  v25 := Tryz.zeroValue3
  t32 := Tryz.underlying23
  a32 := Tryz.isAgg23
  z32 := Tryz.sizeOf23
  v32 := Tryz.zeroValue23
  t35 := Tryz.underlying163
  a35 := Tryz.isAgg163
  z35 := Tryz.sizeOf163
  v35 := Tryz.zeroValue163
  t36 := Tryz.underlying164
  a36 := Tryz.isAgg164
  z36 := Tryz.sizeOf164
  v36 := Tryz.zeroValue164
  t41 := Tryz.underlying169
  a41 := Tryz.isAgg169
  z41 := Tryz.sizeOf169
  v41 := Tryz.zeroValue169
  t44 := Tryz.underlying141
  a44 := Tryz.isAgg141
  z44 := Tryz.sizeOf141
  v44 := Tryz.zeroValue141
  t46 := Tryz.underlying142
  a46 := Tryz.isAgg142
  z46 := Tryz.sizeOf142
  v46 := Tryz.zeroValue142
  t53 := Tryz.underlying191
  a53 := Tryz.isAgg191
  z53 := Tryz.sizeOf191
  v53 := Tryz.zeroValue191
  t57 := Tryz.underlying195
  a57 := Tryz.isAgg195
  z57 := Tryz.sizeOf195
  v57 := Tryz.zeroValue195
  t63 := Tryz.underlying209
  a63 := Tryz.isAgg209
  z63 := Tryz.sizeOf209
  v63 := Tryz.zeroValue209
  t64 := Tryz.underlying210
  a64 := Tryz.isAgg210
  z64 := Tryz.sizeOf210
  v64 := Tryz.zeroValue210 }

end
section
open Go.RowKit Go.Sort Go.Shelf
theorem sortNone (p : Option Addr) (cap : Nat) (w : World) : Calls Tryz.prog 85 #[.slice p 0 cap] w (Ret fun v w' => v = .tuple #[] ∧ Ext w w') :=
  (AnyM.slices_Sort_int_none sortI p cap w).mono fun e w' h => ⟨_, h.1, rfl, h.2 ▸ Keeps.refl _ _⟩
end
def logN : ByteArray := ⟨#[108, 111, 103, 46, 110, 101, 119]⟩
theorem look_log : lookE ([] : List PF) logN = 20 := by decide +kernel
theorem names_nil : (((namesS ([] : List PF)).length : Nat) : Int) = 0 := by decide +kernel

theorem ty24 : Ty Tryz.prog 24 1 8 (.pointer none) false := ty_of (by kernel_rfl) (by kernel_rfl)
theorem ty28 : Ty Tryz.prog 28 1 8 (.pointer none) false := ty_of (by kernel_rfl) (by kernel_rfl)
theorem ty40 : Ty Tryz.prog 40 1 8 (.agg #[.pointer none]) true := ty_of (by kernel_rfl) (by kernel_rfl)
theorem en8 : Enters Tryz.prog 8 := enters_of Tryz.func8 rfl (by kernel_rfl)
theorem en9 : Enters Tryz.prog 9 := enters_of Tryz.func9 rfl (by kernel_rfl)
theorem en13 : Enters Tryz.prog 13 := enters_of Tryz.func13 rfl (by kernel_rfl)
theorem en16 : Enters Tryz.prog 16 := enters_of Tryz.func16 rfl (by kernel_rfl)
theorem en17 : Enters Tryz.prog 17 := enters_of Tryz.func17 rfl (by kernel_rfl)
theorem en18 : Enters Tryz.prog 18 := enters_of Tryz.func18 rfl (by kernel_rfl)
theorem en19 : Enters Tryz.prog 19 := enters_of Tryz.func19 rfl (by kernel_rfl)
theorem en20 : Enters Tryz.prog 20 := enters_of Tryz.func20 rfl (by kernel_rfl)
theorem en24 : Enters Tryz.prog 24 := enters_of Tryz.func24 rfl (by kernel_rfl)
theorem en39 : Enters Tryz.prog 39 := enters_of Tryz.func39 rfl (by kernel_rfl)
theorem en41 : Enters Tryz.prog 41 := enters_of Tryz.func41 rfl (by kernel_rfl)
theorem en47 : Enters Tryz.prog 47 := enters_of Tryz.func47 rfl (by kernel_rfl)
theorem en54 : Enters Tryz.prog 54 := enters_of Tryz.func54 rfl (by kernel_rfl)
theorem en85 : Enters Tryz.prog 85 := enters_of Tryz.func85 rfl (by kernel_rfl)

set_option maxRecDepth 100000 in
set_option maxHeartbeats 4000000 in
theorem equal_b (a : Option Addr) (xs : List UInt8) (c : Nat) (d : Option Addr) (ys : List UInt8) (e : Nat) (w : World) (hs : SlOf w a xs) (ht : SlOf w d ys) (hl : xs.length ≤ 4294967295) :
    Calls Tryz.prog 35 #[.slice (a) (xs.length) (c), .slice (d) (ys.length) (e)] w (Ret (fun v w' => v = .bool (decide (xs = ys)) ∧ Ext w w')) := by
  refine calls_run (n := 26) Tryz.func35 rfl rfl rfl ?_
  refine Run.seq ?_
  refine Run.region ?_
  refine RL.val (x_assignB rfl) ?_
  refine RL.nil ?_
  refine Run.seq ?_
  refine Run.seq ?_
  refine Run.region ?_
  refine RL.val (x_moveSl rfl) ?_
  refine RL.val (x_lenSl Tryz.underlying32 rfl) ?_
  refine RL.val (x_moveSl rfl) ?_
  refine RL.val (x_lenSl Tryz.underlying32 rfl) ?_
  refine RL.val (x_neI rfl rfl) ?_
  refine RL.nil ?_
  refine Run.cond rfl (fun hc10 => ?_) (fun hc10 => ?_)
  · try simp only [br] at hc10
    refine Run.seq ?_
    refine Run.region ?_
    refine RL.val (x_assignB rfl) ?_
    refine RL.nil ?_
    refine Run.ret1 (v := .bool (false)) Tryz.func35 rfl rfl ?_
    exact ⟨_, rfl, by rw [decide_eq_false (fun h => hc10 (by rw [h]))], (Keeps.refl _ w)⟩
  · try simp only [br] at hc10
    have hlen : xs.length = ys.length := by omega
    refine Run.skip ?_
    refine Run.seq ?_
    refine Run.seq ?_
    refine Run.region ?_
    refine RL.val (x_moveSl rfl) ?_
    refine RL.val (x_lenSl Tryz.underlying32 rfl) ?_
    refine RL.val (x_moveI rfl) ?_
    refine RL.nil ?_
    refine Run.block ?_
    refine Run.loop (ι := Nat) (fun i ρ' w' => Holds ρ' [(0, .slice (a) (xs.length) (c)), (1, .slice (d) (ys.length) (e)), (12, .int .i64 (((xs.length : Nat) : Int))), (13, .int .i64 (((i : Nat) : Int)))] ∧ Ext w w' ∧ (i ≤ xs.length) ∧ (SameB xs ys i)) (fun i => xs.length - i) 0 ?_ ?_
    · refine ⟨⟨rfl, rfl, rfl, rfl, trivial⟩, (Keeps.refl _ w), ?_, ?_⟩
      · omega
      · exact SameB.zero _ _
    rintro i ρ_3 w_1 ⟨hH_2, K0, hi, hno⟩ ih1
    obtain ⟨ρ₀, rfl⟩ := hH_2.ex
    clear hH_2
    refine Run.seq ?_
    refine Run.region ?_
    refine RL.val (x_ltI rfl rfl) ?_
    refine RL.nil ?_
    refine Run.seq ?_
    refine Run.cond rfl (fun hc14 => ?_) (fun hc14 => ?_)
    · try simp only [br] at hc14
      refine Run.skip ?_
      refine Run.seq ?_
      refine Run.block ?_
      refine Run.seq ?_
      refine Run.region ?_
      refine RL.val (x_moveI rfl) ?_
      refine RL.val (x_assignI rfl) ?_
      refine RL.nil ?_
      refine Run.seq ?_
      obtain ⟨b_6, o_7, x, hx, ha_8, hc_9⟩ := hs.el (i := i) (by first | omega | (simp only [List.length_set]; omega))
      have hc_9_lt := hc_9.lt
      replace hc_9 := hc_9.ext K0
      obtain ⟨b_12, o_13, y, hy, ha_14, hc_15⟩ := ht.el (i := i) (by first | omega | (simp only [List.length_set]; omega))
      have hc_15_lt := hc_15.lt
      replace hc_15 := hc_15.ext K0
      refine Run.draw' (m := 9) (by kernel_rfl) rfl ?_
      intro w_4 K_5
      replace hc_9 := hc_9.ext K_5
      replace hc_15 := hc_15.ext K_5
      replace K0 := K0.ext K_5
      refine RA.take (v := .slice (a) (xs.length) (c)) 0 rfl (by kernel_rfl) rfl (by rintro _ rfl; exact (x_moveSl rfl)) ?_
      refine RA.take (v := .int .i64 (((i : Nat) : Int))) 1 rfl (by kernel_rfl) rfl (by rintro _ rfl; exact (x_moveI rfl)) ?_
      refine RA.take (v := .pointer (some ⟨b_6, o_7 + i * 1, none⟩)) 2 rfl (by kernel_rfl) rfl (by rintro _ rfl; exact (x_idxN Tryz.underlying32 ty5 rfl rfl ha_8 (by first | omega | (simp only [List.length_set]; omega)))) ?_
      refine RA.take (v := .int .u8 (((x).toNat : Int))) 3 rfl (by kernel_rfl) rfl (by rintro _ rfl; exact (x_ldV (v := .int .u8 (((x).toNat : Int))) (y := x) ty5 rfl hc_9 rfl)) ?_
      refine RA.take (v := .slice (d) (ys.length) (e)) 4 rfl (by kernel_rfl) rfl (by rintro _ rfl; exact (x_moveSl rfl)) ?_
      refine RA.take (v := .int .i64 (((i : Nat) : Int))) 5 rfl (by kernel_rfl) rfl (by rintro _ rfl; exact (x_moveI rfl)) ?_
      refine RA.take (v := .pointer (some ⟨b_12, o_13 + i * 1, none⟩)) 6 rfl (by kernel_rfl) rfl (by rintro _ rfl; exact (x_idxN Tryz.underlying32 ty5 rfl rfl ha_14 (by first | omega | (simp only [List.length_set]; omega)))) ?_
      refine RA.take (v := .int .u8 (((y).toNat : Int))) 7 rfl (by kernel_rfl) rfl (by rintro _ rfl; exact (x_ldV (v := .int .u8 (((y).toNat : Int))) (y := y) ty5 rfl hc_15 rfl)) ?_
      refine RA.take (v := .bool (((x).toNat : Int) != ((y).toNat : Int))) 8 rfl (by kernel_rfl) rfl (by rintro _ rfl; exact (x_neI rfl rfl)) ?_
      refine RA.done (by kernel_rfl) ?_
      refine Run.cond rfl (fun hc24 => ?_) (fun hc24 => ?_)
      · try simp only [br] at hc24
        replace hc24 : ¬ x = y := fun e => hc24 (by rw [e])
        refine Run.seq ?_
        refine Run.region ?_
        refine RL.val (x_assignB rfl) ?_
        refine RL.nil ?_
        refine Run.ret1 (v := .bool (false)) Tryz.func35 rfl rfl ?_
        exact ⟨_, rfl, by rw [decide_eq_false (ne_of_at hx hy hc24)], K0⟩
      · try simp only [br] at hc24
        replace hc24 : x = y := UInt8.toNat_inj.1 (by omega)
        refine Run.skip ?_
        refine Run.inBlock ?_
        refine Run.region ?_
        refine RL.val (litI (c := ((i + 1 : Nat) : Int)) (x_add rfl rfl (by omega) (by omega)) rfl) ?_
        refine RL.val (x_moveI rfl) ?_
        refine RL.nil ?_
        refine ih1 (i + 1) _ _ ?_ (by omega)
        refine ⟨⟨rfl, rfl, rfl, rfl, trivial⟩, K0, ?_, ?_⟩
        · omega
        · exact hno.step hx hy hc24
    · try simp only [br] at hc14
      refine Run.exit rfl ?_
      refine Run.seq ?_
      refine Run.region ?_
      refine RL.val (x_assignB rfl) ?_
      refine RL.nil ?_
      refine Run.ret1 (v := .bool (true)) Tryz.func35 rfl rfl ?_
      exact ⟨_, rfl, by rw [decide_eq_true (hno.all hlen (by omega))], K0⟩

set_option maxRecDepth 100000 in
set_option maxHeartbeats 4000000 in
theorem clone_b (a : Option Addr) (xs : List UInt8) (c : Nat) (w : World) (hs : SlOf w a xs) (hl : xs.length ≤ 4294967295) :
    Calls Tryz.prog 15 #[.slice (a) (xs.length) (c)] w (Ret (fun v w' => ∃ a' c', v = .slice a' xs.length c' ∧ OwnSl w' 5 a' c' xs ∧ (∀ b, own a' b → w.heap.size ≤ b) ∧ Ext w w')) := by
  refine calls_run (n := 8) Tryz.func15 rfl rfl rfl ?_
  refine Run.seq ?_
  refine Run.region ?_
  refine RL.val (x_assignSl rfl) ?_
  refine RL.nil ?_
  refine Run.seq ?_
  refine Run.seq ?_
  refine Run.region ?_
  refine RL.val (x_moveSl rfl) ?_
  refine RL.val (x_slNil Tryz.underlying32 rfl rfl) ?_
  refine RL.nil ?_
  refine Run.cond rfl (fun hc4 => ?_) (fun hc4 => ?_)
  · skip
    refine Run.seq ?_
    refine Run.region ?_
    refine RL.val (x_assignSl rfl) ?_
    refine RL.nil ?_
    refine Run.ret1 (v := .slice (none) (0) (0)) Tryz.func15 rfl rfl ?_
    have hx := hs.nil_of hc4; subst hx; exact ⟨_, rfl, none, 0, rfl, OwnSl.nil _ _, fun b h => absurd h (own_none b), (Keeps.refl _ w)⟩
  · skip
    refine Run.skip ?_
    refine Run.seq ?_
    refine Run.region ?_
    refine RL.st rfl <| St1.buildSlice ([] : List UInt8) Tryz.underlying32 ty5 rfl rfl (by first | decide | (simp [Enc.size])) ?_
    intro b_1 w_2 hl_5 ho_4 K_3
    have pg_6 : ∀ q_, own (some ⟨b_1, 0, none⟩) q_ → w.heap.size ≤ q_ := fun q_ h => Nat.le_trans (Nat.le_refl _) ((ge_new hl_5) q_ h)
    clear hl_5
    have K0 := (K_3 : Ext w _)
    refine RL.val (x_moveSl rfl) ?_
    refine RL.st rfl <| St1.append (xs := ([] : List UInt8)) (ys := xs) Tryz.underlying32 ty5 rfl rfl rfl ho_4 (hs.ext K0) (by first | omega | (simp only [lr]; omega)) (by decide) ?_
    intro a_7 c_8 w_9 ho_10 K_11 hm_12 hrm_13
    have pg_14 : ∀ q_, own a_7 q_ → w.heap.size ≤ q_ := hm_12.ge pg_6 K0.size
    replace K0 := K0.new K_11 pg_6
    clear hm_12
    clear hrm_13
    refine RL.val (x_assignSl rfl) ?_
    refine RL.nil ?_
    refine Run.ret1 (v := .slice (a_7) ((([] : List UInt8) ++ xs).length) (c_8)) Tryz.func15 rfl rfl ?_
    exact ⟨_, rfl, a_7, c_8, by rw [List.nil_append], by simpa using ho_10, pg_14, K0⟩

set_option maxRecDepth 100000 in
set_option maxHeartbeats 4000000 in
theorem made_nil  (w : World) :
    Calls Tryz.prog 46 #[.pointer none] w (Ret (fun v w' => v = .bool (false) ∧ Ext w w')) := by
  refine calls_run (n := 12) Tryz.func46 rfl rfl rfl ?_
  refine Run.seq ?_
  refine Run.region ?_
  refine RL.val (x_assignB rfl) ?_
  refine RL.nil ?_
  refine Run.seq ?_
  refine Run.region ?_
  refine RL.val (x_moveP rfl) ?_
  refine RL.val (litF (x_ptrNotNil Tryz.underlying24 rfl rfl) rfl) ?_
  refine RL.val (x_moveB rfl) ?_
  refine RL.guardF (wantedT0 rfl rfl rfl rfl) ?_
  refine RL.guardF (wantedT0 rfl rfl rfl rfl) ?_
  refine RL.guardF (wantedT0 rfl rfl rfl rfl) ?_
  refine RL.guardF (wantedT0 rfl rfl rfl rfl) ?_
  refine RL.guardF (wantedT0 rfl rfl rfl rfl) ?_
  refine RL.val (x_and (b := false) (e := false) rfl rfl rfl) ?_
  refine RL.val (x_assignB rfl) ?_
  refine RL.nil ?_
  refine Run.ret1 (v := .bool (false)) Tryz.func46 rfl rfl ?_
  exact ⟨_, rfl, rfl, (Keeps.refl _ w)⟩

set_option maxRecDepth 100000 in
set_option maxHeartbeats 4000000 in
theorem made_zero (b : Nat)  (w : World) (hb : Blk w b [.map none, .int .i64 (0)] 51) :
    Calls Tryz.prog 46 #[.pointer (some ⟨b, 0, none⟩)] w (Ret (fun v w' => v = .bool (false) ∧ Ext w w')) := by
  refine calls_run (n := 12) Tryz.func46 rfl rfl rfl ?_
  refine Run.seq ?_
  refine Run.region ?_
  refine RL.val (x_assignB rfl) ?_
  refine RL.nil ?_
  refine Run.seq ?_
  refine Run.region ?_
  refine RL.val (x_moveP rfl) ?_
  refine RL.val (litT (x_ptrNotNil Tryz.underlying24 rfl rfl) rfl) ?_
  refine RL.val (x_moveB rfl) ?_
  refine RL.gst (wantedT1 rfl rfl rfl rfl) <| St1.val (x_moveP rfl) ?_
  refine RL.gst (wantedT1 rfl rfl rfl rfl) <| St1.val (x_nilCheck rfl) ?_
  refine RL.gst (wantedT1 rfl rfl rfl rfl) <| St1.val (x_fld (o' := 0) Tryz.underlying51 rfl ty49 rfl rfl rfl) ?_
  refine RL.gst (wantedT1 rfl rfl rfl rfl) <| St1.val (x_ld (v := .map none) ty49 rfl rfl (hb.cl.field (i := 0) rfl)) ?_
  refine RL.gst (wantedT1 rfl rfl rfl rfl) <| St1.val (litF (x_mapNotNil Tryz.underlying49 rfl rfl) rfl) ?_
  refine RL.val (x_andT rfl rfl rfl) ?_
  refine RL.val (x_assignB rfl) ?_
  refine RL.nil ?_
  refine Run.ret1 (v := .bool (false)) Tryz.func46 rfl rfl ?_
  exact ⟨_, rfl, rfl, (Keeps.refl _ w)⟩

set_option maxRecDepth 100000 in
set_option maxHeartbeats 4000000 in
theorem look_nil (s0 : ByteArray) (w : World) :
    Calls Tryz.prog 60 #[.pointer none, .string (s0)] w (Ret (fun v w' => v = .tuple #[.pointer none, .int .i64 (8)] ∧ Ext w w')) := by
  refine calls_run (n := 28) Tryz.func60 rfl rfl rfl ?_
  refine Run.seq ?_
  refine Run.region ?_
  refine RL.val (x_assignP rfl) ?_
  refine RL.val (x_assignI rfl) ?_
  refine RL.nil ?_
  refine Run.seq ?_
  refine Run.block ?_
  refine Run.seq ?_
  refine Run.region ?_
  refine RL.val (x_moveP rfl) ?_
  refine RL.st rfl <| St1.call (vals := [.pointer none]) en46 rfl (made_nil  _) ?_
  rintro _ w_1 ⟨rfl, K_2⟩
  have K0 := (K_2 : Ext w _)
  refine RL.val (x_not (b := false) rfl) ?_
  refine RL.val (x_assignB rfl) ?_
  refine RL.nil ?_
  refine Run.condT rfl ?_
  refine Run.seq ?_
  refine Run.region ?_
  refine RL.val (x_assignP rfl) ?_
  refine RL.val (x_assignI rfl) ?_
  refine RL.nil ?_
  refine Run.ret2 (v := .pointer none) (x := .int .i64 (8)) Tryz.func60 rfl rfl rfl ?_
  exact ⟨_, rfl, rfl, K0⟩

set_option maxRecDepth 100000 in
set_option maxHeartbeats 4000000 in
theorem look_zero (b : Nat) (s0 : ByteArray) (w : World) (hb : Blk w b [.map none, .int .i64 (0)] 51) :
    Calls Tryz.prog 60 #[.pointer (some ⟨b, 0, none⟩), .string (s0)] w (Ret (fun v w' => v = .tuple #[.pointer none, .int .i64 (8)] ∧ Ext w w')) := by
  refine calls_run (n := 28) Tryz.func60 rfl rfl rfl ?_
  refine Run.seq ?_
  refine Run.region ?_
  refine RL.val (x_assignP rfl) ?_
  refine RL.val (x_assignI rfl) ?_
  refine RL.nil ?_
  refine Run.seq ?_
  refine Run.block ?_
  refine Run.seq ?_
  refine Run.region ?_
  refine RL.val (x_moveP rfl) ?_
  refine RL.st rfl <| St1.call (vals := [.pointer (some ⟨b, 0, none⟩)]) en46 rfl (made_zero _  _ hb) ?_
  rintro _ w_1 ⟨rfl, K_2⟩
  replace hb := hb.ext K_2
  have K0 := (K_2 : Ext w _)
  refine RL.val (x_not (b := false) rfl) ?_
  refine RL.val (x_assignB rfl) ?_
  refine RL.nil ?_
  refine Run.condT rfl ?_
  refine Run.seq ?_
  refine Run.region ?_
  refine RL.val (x_assignP rfl) ?_
  refine RL.val (x_assignI rfl) ?_
  refine RL.nil ?_
  refine Run.ret2 (v := .pointer none) (x := .int .i64 (8)) Tryz.func60 rfl rfl rfl ?_
  exact ⟨_, rfl, rfl, K0⟩

set_option maxRecDepth 100000 in
set_option maxHeartbeats 4000000 in
theorem Size_nil (s0 : ByteArray) (w : World) :
    Calls Tryz.prog 39 #[.pointer none, .string (s0)] w (Ret (fun v w' => v = .tuple #[.int .i64 (0), .int .i64 (0), .int .i64 (8)] ∧ Ext w w')) := by
  refine calls_run (n := 26) Tryz.func39 rfl rfl rfl ?_
  refine Run.seq ?_
  refine Run.region ?_
  refine RL.val (x_assignI rfl) ?_
  refine RL.val (x_assignI rfl) ?_
  refine RL.val (x_assignI rfl) ?_
  refine RL.nil ?_
  refine Run.seq ?_
  refine Run.region ?_
  refine RL.val (x_moveP rfl) ?_
  refine RL.val (x_moveS rfl) ?_
  refine RL.st rfl <| St1.call (vals := [.pointer none, .string (s0)]) en60 rfl (look_nil s0 _) ?_
  rintro _ w_1 ⟨rfl, K_2⟩
  have K0 := (K_2 : Ext w _)
  refine RL.val (x_moveT rfl) ?_
  refine RL.val (x_extract rfl rfl) ?_
  refine RL.val (x_extract rfl rfl) ?_
  refine RL.val (x_assignP rfl) ?_
  refine RL.val (x_assignI rfl) ?_
  refine RL.nil ?_
  refine Run.seq ?_
  refine Run.seq ?_
  refine Run.region ?_
  refine RL.val (x_moveI rfl) ?_
  refine RL.val (litT (x_neI rfl rfl) (by decide)) ?_
  refine RL.nil ?_
  refine Run.condT rfl ?_
  refine Run.seq ?_
  refine Run.region ?_
  refine RL.val (x_moveI rfl) ?_
  refine RL.val (x_assignI rfl) ?_
  refine RL.val (x_assignI rfl) ?_
  refine RL.val (x_assignI rfl) ?_
  refine RL.nil ?_
  refine Run.ret3 (v := .int .i64 (0)) (x := .int .i64 (0)) (y := .int .i64 (8)) Tryz.func39 rfl rfl rfl rfl ?_
  exact ⟨_, rfl, rfl, K0⟩

set_option maxRecDepth 100000 in
set_option maxHeartbeats 4000000 in
theorem Size_zero (b : Nat) (s0 : ByteArray) (w : World) (hb : Blk w b [.map none, .int .i64 (0)] 51) :
    Calls Tryz.prog 39 #[.pointer (some ⟨b, 0, none⟩), .string (s0)] w (Ret (fun v w' => v = .tuple #[.int .i64 (0), .int .i64 (0), .int .i64 (8)] ∧ Ext w w')) := by
  refine calls_run (n := 26) Tryz.func39 rfl rfl rfl ?_
  refine Run.seq ?_
  refine Run.region ?_
  refine RL.val (x_assignI rfl) ?_
  refine RL.val (x_assignI rfl) ?_
  refine RL.val (x_assignI rfl) ?_
  refine RL.nil ?_
  refine Run.seq ?_
  refine Run.region ?_
  refine RL.val (x_moveP rfl) ?_
  refine RL.val (x_moveS rfl) ?_
  refine RL.st rfl <| St1.call (vals := [.pointer (some ⟨b, 0, none⟩), .string (s0)]) en60 rfl (look_zero _ s0 _ hb) ?_
  rintro _ w_1 ⟨rfl, K_2⟩
  replace hb := hb.ext K_2
  have K0 := (K_2 : Ext w _)
  refine RL.val (x_moveT rfl) ?_
  refine RL.val (x_extract rfl rfl) ?_
  refine RL.val (x_extract rfl rfl) ?_
  refine RL.val (x_assignP rfl) ?_
  refine RL.val (x_assignI rfl) ?_
  refine RL.nil ?_
  refine Run.seq ?_
  refine Run.seq ?_
  refine Run.region ?_
  refine RL.val (x_moveI rfl) ?_
  refine RL.val (litT (x_neI rfl rfl) (by decide)) ?_
  refine RL.nil ?_
  refine Run.condT rfl ?_
  refine Run.seq ?_
  refine Run.region ?_
  refine RL.val (x_moveI rfl) ?_
  refine RL.val (x_assignI rfl) ?_
  refine RL.val (x_assignI rfl) ?_
  refine RL.val (x_assignI rfl) ?_
  refine RL.nil ?_
  refine Run.ret3 (v := .int .i64 (0)) (x := .int .i64 (0)) (y := .int .i64 (8)) Tryz.func39 rfl rfl rfl rfl ?_
  exact ⟨_, rfl, rfl, K0⟩

set_option maxRecDepth 100000 in
set_option maxHeartbeats 4000000 in
theorem lmade_nil  (w : World) :
    Calls Tryz.prog 47 #[.pointer none] w (Ret (fun v w' => v = .bool (false) ∧ Ext w w')) := by
  refine calls_run (n := 13) Tryz.func47 rfl rfl rfl ?_
  refine Run.seq ?_
  refine Run.region ?_
  refine RL.val (x_assignB rfl) ?_
  refine RL.nil ?_
  refine Run.seq ?_
  refine Run.region ?_
  refine RL.val (x_moveP rfl) ?_
  refine RL.val (litF (x_ptrNotNil Tryz.underlying28 rfl rfl) rfl) ?_
  refine RL.val (x_moveB rfl) ?_
  refine RL.guardF (wantedT0 rfl rfl rfl rfl) ?_
  refine RL.guardF (wantedT0 rfl rfl rfl rfl) ?_
  refine RL.guardF (wantedT0 rfl rfl rfl rfl) ?_
  refine RL.guardF (wantedT0 rfl rfl rfl rfl) ?_
  refine RL.guardF (wantedT0 rfl rfl rfl rfl) ?_
  refine RL.guardF (wantedT0 rfl rfl rfl rfl) ?_
  refine RL.val (x_and (b := false) (e := false) rfl rfl rfl) ?_
  refine RL.val (x_assignB rfl) ?_
  refine RL.nil ?_
  refine Run.ret1 (v := .bool (false)) Tryz.func47 rfl rfl ?_
  exact ⟨_, rfl, rfl, (Keeps.refl _ w)⟩

set_option maxRecDepth 100000 in
set_option maxHeartbeats 4000000 in
theorem lmade_zero (b : Nat)  (w : World) (hb : Blk w b [.pointer none] 42) :
    Calls Tryz.prog 47 #[.pointer (some ⟨b, 0, none⟩)] w (Ret (fun v w' => v = .bool (false) ∧ Ext w w')) := by
  refine calls_run (n := 13) Tryz.func47 rfl rfl rfl ?_
  refine Run.seq ?_
  refine Run.region ?_
  refine RL.val (x_assignB rfl) ?_
  refine RL.nil ?_
  refine Run.seq ?_
  refine Run.region ?_
  refine RL.val (x_moveP rfl) ?_
  refine RL.val (litT (x_ptrNotNil Tryz.underlying28 rfl rfl) rfl) ?_
  refine RL.val (x_moveB rfl) ?_
  refine RL.gst (wantedT1 rfl rfl rfl rfl) <| St1.val (x_moveP rfl) ?_
  refine RL.gst (wantedT1 rfl rfl rfl rfl) <| St1.val (x_nilCheck rfl) ?_
  refine RL.gst (wantedT1 rfl rfl rfl rfl) <| St1.val (x_fld (o' := 0) Tryz.underlying42 rfl ty40 rfl rfl rfl) ?_
  refine RL.gst (wantedT1 rfl rfl rfl rfl) <| St1.val (x_fld (o' := 0) Tryz.underlying40 rfl ty24 rfl rfl rfl) ?_
  refine RL.gst (wantedT1 rfl rfl rfl rfl) <| St1.val (x_ld (v := .pointer none) ty24 rfl rfl (hb.cl.field (i := 0) rfl)) ?_
  refine RL.gst (wantedT1 rfl rfl rfl rfl) <| St1.val (litF (x_ptrNotNil Tryz.underlying24 rfl rfl) rfl) ?_
  refine RL.val (x_andT rfl rfl rfl) ?_
  refine RL.val (x_assignB rfl) ?_
  refine RL.nil ?_
  refine Run.ret1 (v := .bool (false)) Tryz.func47 rfl rfl ?_
  exact ⟨_, rfl, rfl, (Keeps.refl _ w)⟩

set_option maxRecDepth 100000 in
set_option maxHeartbeats 4000000 in
theorem lAppend_nil (a : Option Addr) (n c : Nat) (w : World) :
    Calls Tryz.prog 13 #[.pointer none, .slice (a) (n) (c)] w (Ret (fun v w' => v = .int .i64 (8) ∧ Ext w w')) := by
  refine calls_run (n := 79) Tryz.func13 rfl rfl rfl ?_
  refine Run.seq ?_
  refine Run.region ?_
  refine RL.val (x_assignI rfl) ?_
  refine RL.nil ?_
  refine Run.seq ?_
  refine Run.seq ?_
  refine Run.region ?_
  refine RL.val (x_moveP rfl) ?_
  refine RL.st rfl <| St1.call (vals := [.pointer none]) en47 rfl (lmade_nil  _) ?_
  rintro _ w_1 ⟨rfl, K_2⟩
  have K0 := (K_2 : Ext w _)
  refine RL.val (x_not (b := false) rfl) ?_
  refine RL.nil ?_
  refine Run.condT rfl ?_
  refine Run.seq ?_
  refine Run.region ?_
  refine RL.val (x_assignI rfl) ?_
  refine RL.nil ?_
  refine Run.ret1 (v := .int .i64 (8)) Tryz.func13 rfl rfl ?_
  exact ⟨_, rfl, rfl, K0⟩

set_option maxRecDepth 100000 in
set_option maxHeartbeats 4000000 in
theorem lAppend_zero (b : Nat) (a : Option Addr) (n c : Nat) (w : World) (hb : Blk w b [.pointer none] 42) :
    Calls Tryz.prog 13 #[.pointer (some ⟨b, 0, none⟩), .slice (a) (n) (c)] w (Ret (fun v w' => v = .int .i64 (8) ∧ Ext w w')) := by
  refine calls_run (n := 79) Tryz.func13 rfl rfl rfl ?_
  refine Run.seq ?_
  refine Run.region ?_
  refine RL.val (x_assignI rfl) ?_
  refine RL.nil ?_
  refine Run.seq ?_
  refine Run.seq ?_
  refine Run.region ?_
  refine RL.val (x_moveP rfl) ?_
  refine RL.st rfl <| St1.call (vals := [.pointer (some ⟨b, 0, none⟩)]) en47 rfl (lmade_zero _  _ hb) ?_
  rintro _ w_1 ⟨rfl, K_2⟩
  replace hb := hb.ext K_2
  have K0 := (K_2 : Ext w _)
  refine RL.val (x_not (b := false) rfl) ?_
  refine RL.nil ?_
  refine Run.condT rfl ?_
  refine Run.seq ?_
  refine Run.region ?_
  refine RL.val (x_assignI rfl) ?_
  refine RL.nil ?_
  refine Run.ret1 (v := .int .i64 (8)) Tryz.func13 rfl rfl ?_
  exact ⟨_, rfl, rfl, K0⟩

set_option maxRecDepth 100000 in
set_option maxHeartbeats 4000000 in
theorem lSync_nil  (w : World) :
    Calls Tryz.prog 16 #[.pointer none] w (Ret (fun v w' => v = .int .i64 (8) ∧ Ext w w')) := by
  refine calls_run (n := 21) Tryz.func16 rfl rfl rfl ?_
  refine Run.seq ?_
  refine Run.region ?_
  refine RL.val (x_assignI rfl) ?_
  refine RL.nil ?_
  refine Run.seq ?_
  refine Run.seq ?_
  refine Run.region ?_
  refine RL.val (x_moveP rfl) ?_
  refine RL.st rfl <| St1.call (vals := [.pointer none]) en47 rfl (lmade_nil  _) ?_
  rintro _ w_1 ⟨rfl, K_2⟩
  have K0 := (K_2 : Ext w _)
  refine RL.val (x_not (b := false) rfl) ?_
  refine RL.nil ?_
  refine Run.condT rfl ?_
  refine Run.seq ?_
  refine Run.region ?_
  refine RL.val (x_assignI rfl) ?_
  refine RL.nil ?_
  refine Run.ret1 (v := .int .i64 (8)) Tryz.func16 rfl rfl ?_
  exact ⟨_, rfl, rfl, K0⟩

set_option maxRecDepth 100000 in
set_option maxHeartbeats 4000000 in
theorem lSync_zero (b : Nat)  (w : World) (hb : Blk w b [.pointer none] 42) :
    Calls Tryz.prog 16 #[.pointer (some ⟨b, 0, none⟩)] w (Ret (fun v w' => v = .int .i64 (8) ∧ Ext w w')) := by
  refine calls_run (n := 21) Tryz.func16 rfl rfl rfl ?_
  refine Run.seq ?_
  refine Run.region ?_
  refine RL.val (x_assignI rfl) ?_
  refine RL.nil ?_
  refine Run.seq ?_
  refine Run.seq ?_
  refine Run.region ?_
  refine RL.val (x_moveP rfl) ?_
  refine RL.st rfl <| St1.call (vals := [.pointer (some ⟨b, 0, none⟩)]) en47 rfl (lmade_zero _  _ hb) ?_
  rintro _ w_1 ⟨rfl, K_2⟩
  replace hb := hb.ext K_2
  have K0 := (K_2 : Ext w _)
  refine RL.val (x_not (b := false) rfl) ?_
  refine RL.nil ?_
  refine Run.condT rfl ?_
  refine Run.seq ?_
  refine Run.region ?_
  refine RL.val (x_assignI rfl) ?_
  refine RL.nil ?_
  refine Run.ret1 (v := .int .i64 (8)) Tryz.func16 rfl rfl ?_
  exact ⟨_, rfl, rfl, K0⟩

set_option maxRecDepth 100000 in
set_option maxHeartbeats 4000000 in
theorem lReplace_nil (a : Option Addr) (n c : Nat) (w : World) :
    Calls Tryz.prog 17 #[.pointer none, .slice (a) (n) (c)] w (Ret (fun v w' => v = .int .i64 (8) ∧ Ext w w')) := by
  refine calls_run (n := 99) Tryz.func17 rfl rfl rfl ?_
  refine Run.seq ?_
  refine Run.region ?_
  refine RL.val (x_assignI rfl) ?_
  refine RL.nil ?_
  refine Run.seq ?_
  refine Run.seq ?_
  refine Run.region ?_
  refine RL.val (x_moveP rfl) ?_
  refine RL.st rfl <| St1.call (vals := [.pointer none]) en47 rfl (lmade_nil  _) ?_
  rintro _ w_1 ⟨rfl, K_2⟩
  have K0 := (K_2 : Ext w _)
  refine RL.val (x_not (b := false) rfl) ?_
  refine RL.nil ?_
  refine Run.condT rfl ?_
  refine Run.seq ?_
  refine Run.region ?_
  refine RL.val (x_assignI rfl) ?_
  refine RL.nil ?_
  refine Run.ret1 (v := .int .i64 (8)) Tryz.func17 rfl rfl ?_
  exact ⟨_, rfl, rfl, K0⟩

set_option maxRecDepth 100000 in
set_option maxHeartbeats 4000000 in
theorem lReplace_zero (b : Nat) (a : Option Addr) (n c : Nat) (w : World) (hb : Blk w b [.pointer none] 42) :
    Calls Tryz.prog 17 #[.pointer (some ⟨b, 0, none⟩), .slice (a) (n) (c)] w (Ret (fun v w' => v = .int .i64 (8) ∧ Ext w w')) := by
  refine calls_run (n := 99) Tryz.func17 rfl rfl rfl ?_
  refine Run.seq ?_
  refine Run.region ?_
  refine RL.val (x_assignI rfl) ?_
  refine RL.nil ?_
  refine Run.seq ?_
  refine Run.seq ?_
  refine Run.region ?_
  refine RL.val (x_moveP rfl) ?_
  refine RL.st rfl <| St1.call (vals := [.pointer (some ⟨b, 0, none⟩)]) en47 rfl (lmade_zero _  _ hb) ?_
  rintro _ w_1 ⟨rfl, K_2⟩
  replace hb := hb.ext K_2
  have K0 := (K_2 : Ext w _)
  refine RL.val (x_not (b := false) rfl) ?_
  refine RL.nil ?_
  refine Run.condT rfl ?_
  refine Run.seq ?_
  refine Run.region ?_
  refine RL.val (x_assignI rfl) ?_
  refine RL.nil ?_
  refine Run.ret1 (v := .int .i64 (8)) Tryz.func17 rfl rfl ?_
  exact ⟨_, rfl, rfl, K0⟩

set_option maxRecDepth 100000 in
set_option maxHeartbeats 4000000 in
theorem lSegments_nil  (w : World) :
    Calls Tryz.prog 18 #[.pointer none] w (Ret (fun v w' => v = .slice (none) (0) (0) ∧ Ext w w')) := by
  refine calls_run (n := 10) Tryz.func18 rfl rfl rfl ?_
  refine Run.seq ?_
  refine Run.region ?_
  refine RL.val (x_assignSl rfl) ?_
  refine RL.nil ?_
  refine Run.seq ?_
  refine Run.seq ?_
  refine Run.region ?_
  refine RL.val (x_moveP rfl) ?_
  refine RL.st rfl <| St1.call (vals := [.pointer none]) en47 rfl (lmade_nil  _) ?_
  rintro _ w_1 ⟨rfl, K_2⟩
  have K0 := (K_2 : Ext w _)
  refine RL.val (x_not (b := false) rfl) ?_
  refine RL.nil ?_
  refine Run.condT rfl ?_
  refine Run.seq ?_
  refine Run.region ?_
  refine RL.val (x_assignSl rfl) ?_
  refine RL.nil ?_
  refine Run.ret1 (v := .slice (none) (0) (0)) Tryz.func18 rfl rfl ?_
  exact ⟨_, rfl, rfl, K0⟩

set_option maxRecDepth 100000 in
set_option maxHeartbeats 4000000 in
theorem lSegments_zero (b : Nat)  (w : World) (hb : Blk w b [.pointer none] 42) :
    Calls Tryz.prog 18 #[.pointer (some ⟨b, 0, none⟩)] w (Ret (fun v w' => v = .slice (none) (0) (0) ∧ Ext w w')) := by
  refine calls_run (n := 10) Tryz.func18 rfl rfl rfl ?_
  refine Run.seq ?_
  refine Run.region ?_
  refine RL.val (x_assignSl rfl) ?_
  refine RL.nil ?_
  refine Run.seq ?_
  refine Run.seq ?_
  refine Run.region ?_
  refine RL.val (x_moveP rfl) ?_
  refine RL.st rfl <| St1.call (vals := [.pointer (some ⟨b, 0, none⟩)]) en47 rfl (lmade_zero _  _ hb) ?_
  rintro _ w_1 ⟨rfl, K_2⟩
  replace hb := hb.ext K_2
  have K0 := (K_2 : Ext w _)
  refine RL.val (x_not (b := false) rfl) ?_
  refine RL.nil ?_
  refine Run.condT rfl ?_
  refine Run.seq ?_
  refine Run.region ?_
  refine RL.val (x_assignSl rfl) ?_
  refine RL.nil ?_
  refine Run.ret1 (v := .slice (none) (0) (0)) Tryz.func18 rfl rfl ?_
  exact ⟨_, rfl, rfl, K0⟩

set_option maxRecDepth 100000 in
set_option maxHeartbeats 4000000 in
theorem lBytes_nil  (w : World) :
    Calls Tryz.prog 19 #[.pointer none] w (Ret (fun v w' => v = .int .i64 (0) ∧ Ext w w')) := by
  refine calls_run (n := 10) Tryz.func19 rfl rfl rfl ?_
  refine Run.seq ?_
  refine Run.region ?_
  refine RL.val (x_assignI rfl) ?_
  refine RL.nil ?_
  refine Run.seq ?_
  refine Run.seq ?_
  refine Run.region ?_
  refine RL.val (x_moveP rfl) ?_
  refine RL.st rfl <| St1.call (vals := [.pointer none]) en47 rfl (lmade_nil  _) ?_
  rintro _ w_1 ⟨rfl, K_2⟩
  have K0 := (K_2 : Ext w _)
  refine RL.val (x_not (b := false) rfl) ?_
  refine RL.nil ?_
  refine Run.condT rfl ?_
  refine Run.seq ?_
  refine Run.region ?_
  refine RL.val (x_assignI rfl) ?_
  refine RL.nil ?_
  refine Run.ret1 (v := .int .i64 (0)) Tryz.func19 rfl rfl ?_
  exact ⟨_, rfl, rfl, K0⟩

set_option maxRecDepth 100000 in
set_option maxHeartbeats 4000000 in
theorem lBytes_zero (b : Nat)  (w : World) (hb : Blk w b [.pointer none] 42) :
    Calls Tryz.prog 19 #[.pointer (some ⟨b, 0, none⟩)] w (Ret (fun v w' => v = .int .i64 (0) ∧ Ext w w')) := by
  refine calls_run (n := 10) Tryz.func19 rfl rfl rfl ?_
  refine Run.seq ?_
  refine Run.region ?_
  refine RL.val (x_assignI rfl) ?_
  refine RL.nil ?_
  refine Run.seq ?_
  refine Run.seq ?_
  refine Run.region ?_
  refine RL.val (x_moveP rfl) ?_
  refine RL.st rfl <| St1.call (vals := [.pointer (some ⟨b, 0, none⟩)]) en47 rfl (lmade_zero _  _ hb) ?_
  rintro _ w_1 ⟨rfl, K_2⟩
  replace hb := hb.ext K_2
  have K0 := (K_2 : Ext w _)
  refine RL.val (x_not (b := false) rfl) ?_
  refine RL.nil ?_
  refine Run.condT rfl ?_
  refine Run.seq ?_
  refine Run.region ?_
  refine RL.val (x_assignI rfl) ?_
  refine RL.nil ?_
  refine Run.ret1 (v := .int .i64 (0)) Tryz.func19 rfl rfl ?_
  exact ⟨_, rfl, rfl, K0⟩

set_option maxRecDepth 100000 in
set_option maxHeartbeats 4000000 in
theorem segsE (b d : Nat) (F : Nat → Prop) (room : Int) (w : World) (hb : Blk w b [.pointer (some ⟨d, 0, none⟩)] 42) (hD : DiskAt w d F room []) (hbd : ¬ F b) :
    Calls Tryz.prog 54 #[.pointer (some ⟨b, 0, none⟩)] w (Ret (fun v w' => v = .slice (none) (0) (0) ∧ Ext w w')) := by
  refine calls_run (n := 58) Tryz.func54 rfl rfl rfl ?_
  refine Run.seq ?_
  refine Run.region ?_
  refine RL.val (x_assignSl rfl) ?_
  refine RL.nil ?_
  refine Run.seq ?_
  refine Run.seq ?_
  refine Run.region ?_
  refine RL.val (x_moveP rfl) ?_
  refine RL.val (litF (x_ptrNil Tryz.underlying125 rfl rfl) rfl) ?_
  refine RL.val (x_moveB rfl) ?_
  refine RL.gst (wantedF1 rfl rfl rfl rfl) <| St1.val (x_moveP rfl) ?_
  refine RL.gst (wantedF1 rfl rfl rfl rfl) <| St1.val (x_nilCheck rfl) ?_
  refine RL.gst (wantedF1 rfl rfl rfl rfl) <| St1.val (x_fld (o' := 0) Tryz.underlying40 rfl ty24 rfl rfl rfl) ?_
  refine RL.gst (wantedF1 rfl rfl rfl rfl) <| St1.val (x_ld (v := .pointer (some ⟨d, 0, none⟩)) ty24 rfl rfl (hb.cl.field (i := 0) rfl)) ?_
  refine RL.gst (wantedF1 rfl rfl rfl rfl) <| St1.val (litF (x_ptrNil Tryz.underlying24 rfl rfl) rfl) ?_
  refine RL.val (x_orF rfl rfl rfl) ?_
  refine RL.nil ?_
  refine Run.condF rfl ?_
  refine Run.skip ?_
  refine Run.seq ?_
  refine Run.region ?_
  refine RL.val (x_assignSl rfl) ?_
  refine RL.nil ?_
  refine Run.seq ?_
  refine Run.seq ?_
  refine Run.region ?_
  refine RL.val (x_moveP rfl) ?_
  refine RL.val (x_nilCheck rfl) ?_
  refine RL.val (x_fld (o' := 0) Tryz.underlying40 rfl ty24 rfl rfl rfl) ?_
  refine RL.val (x_ld (v := .pointer (some ⟨d, 0, none⟩)) ty24 rfl rfl (hb.cl.field (i := 0) rfl)) ?_
  refine RL.st rfl <| St1.call (vals := [.pointer (some ⟨d, 0, none⟩)]) en24 rfl (filesD hD) ?_
  rintro _ w_3 ⟨a_1, c_2, rfl, ho_4, hg_5, K_6⟩
  have pr_7 : ¬ own a_1 b := notNew hg_5 hb.lt
  have pr_8 : ∀ q_, own a_1 q_ → ¬ F q_ := apartNew hg_5 hD.own_lt
  have pg_9 : ∀ q_, own a_1 q_ → w.heap.size ≤ q_ := fun q_ h => Nat.le_trans (Nat.le_refl _) (hg_5 q_ h)
  clear hg_5
  replace hb := hb.ext K_6
  replace hD := hD.ext K_6
  have K0 := (K_6 : Ext w _)
  refine RL.val (litI (c := 0) (x_lenSl Tryz.underlying61 rfl) names_nil) ?_
  refine RL.val (x_moveI rfl) ?_
  refine RL.nil ?_
  refine Run.block ?_
  refine Run.unloop ?_
  refine Run.seq ?_
  refine Run.region ?_
  refine RL.val (litF (x_ltI rfl rfl) (by decide)) ?_
  refine RL.nil ?_
  refine Run.seq ?_
  refine Run.condF rfl ?_
  refine Run.exit rfl ?_
  refine Run.seq ?_
  refine Run.region ?_
  refine RL.val (x_moveSl rfl) ?_
  refine RL.st rfl <| St1.call (vals := [.slice (none) (0) (0)]) en85 rfl (sortNone _ _ _) ?_
  rintro _ w_10 ⟨rfl, K_11⟩
  replace hb := hb.ext K_11
  replace hD := hD.ext K_11
  replace ho_4 := ho_4.ext K_11
  replace K0 := K0.ext K_11
  refine RL.nil ?_
  refine Run.seq ?_
  refine Run.region ?_
  refine RL.val (x_moveSl rfl) ?_
  refine RL.val (x_assignSl rfl) ?_
  refine RL.nil ?_
  refine Run.ret1 (v := .slice (none) (0) (0)) Tryz.func54 rfl rfl ?_
  exact ⟨_, rfl, rfl, K0⟩

set_option maxRecDepth 100000 in
set_option maxHeartbeats 4000000 in
theorem lmadeE (b d : Nat) (F : Nat → Prop) (room : Int) (w : World) (hb : Blk w b [.pointer (some ⟨d, 0, none⟩)] 42) (hD : DiskAt w d F room []) (hbd : ¬ F b) :
    Calls Tryz.prog 47 #[.pointer (some ⟨b, 0, none⟩)] w (Ret (fun v w' => v = .bool (true) ∧ Ext w w')) := by
  refine calls_run (n := 13) Tryz.func47 rfl rfl rfl ?_
  refine Run.seq ?_
  refine Run.region ?_
  refine RL.val (x_assignB rfl) ?_
  refine RL.nil ?_
  refine Run.seq ?_
  refine Run.region ?_
  refine RL.val (x_moveP rfl) ?_
  refine RL.val (litT (x_ptrNotNil Tryz.underlying28 rfl rfl) rfl) ?_
  refine RL.val (x_moveB rfl) ?_
  refine RL.gst (wantedT1 rfl rfl rfl rfl) <| St1.val (x_moveP rfl) ?_
  refine RL.gst (wantedT1 rfl rfl rfl rfl) <| St1.val (x_nilCheck rfl) ?_
  refine RL.gst (wantedT1 rfl rfl rfl rfl) <| St1.val (x_fld (o' := 0) Tryz.underlying42 rfl ty40 rfl rfl rfl) ?_
  refine RL.gst (wantedT1 rfl rfl rfl rfl) <| St1.val (x_fld (o' := 0) Tryz.underlying40 rfl ty24 rfl rfl rfl) ?_
  refine RL.gst (wantedT1 rfl rfl rfl rfl) <| St1.val (x_ld (v := .pointer (some ⟨d, 0, none⟩)) ty24 rfl rfl (hb.cl.field (i := 0) rfl)) ?_
  refine RL.gst (wantedT1 rfl rfl rfl rfl) <| St1.val (litT (x_ptrNotNil Tryz.underlying24 rfl rfl) rfl) ?_
  refine RL.val (x_andT rfl rfl rfl) ?_
  refine RL.val (x_assignB rfl) ?_
  refine RL.nil ?_
  refine Run.ret1 (v := .bool (true)) Tryz.func47 rfl rfl ?_
  exact ⟨_, rfl, rfl, (Keeps.refl _ w)⟩

set_option maxRecDepth 100000 in
set_option maxHeartbeats 4000000 in
theorem lsegsE (b d : Nat) (F : Nat → Prop) (room : Int) (w : World) (hb : Blk w b [.pointer (some ⟨d, 0, none⟩)] 42) (hD : DiskAt w d F room []) (hbd : ¬ F b) :
    Calls Tryz.prog 18 #[.pointer (some ⟨b, 0, none⟩)] w (Ret (fun v w' => v = .slice (none) (0) (0) ∧ Ext w w')) := by
  refine calls_run (n := 10) Tryz.func18 rfl rfl rfl ?_
  refine Run.seq ?_
  refine Run.region ?_
  refine RL.val (x_assignSl rfl) ?_
  refine RL.nil ?_
  refine Run.seq ?_
  refine Run.seq ?_
  refine Run.region ?_
  refine RL.val (x_moveP rfl) ?_
  refine RL.st rfl <| St1.call (vals := [.pointer (some ⟨b, 0, none⟩)]) en47 rfl (lmadeE _ _ _ _ _ hb hD hbd) ?_
  rintro _ w_1 ⟨rfl, K_2⟩
  replace hb := hb.ext K_2
  replace hD := hD.ext K_2
  have K0 := (K_2 : Ext w _)
  refine RL.val (x_not (b := true) rfl) ?_
  refine RL.nil ?_
  refine Run.condF rfl ?_
  refine Run.skip ?_
  refine Run.seq ?_
  refine Run.region ?_
  refine RL.val (x_moveP rfl) ?_
  refine RL.val (x_nilCheck rfl) ?_
  refine RL.val (x_fld (o' := 0) Tryz.underlying42 rfl ty40 rfl rfl rfl) ?_
  refine RL.st rfl <| St1.call (vals := [.pointer (some ⟨b, 0, none⟩)]) en54 rfl (segsE _ _ _ _ _ hb hD hbd) ?_
  rintro _ w_3 ⟨rfl, K_4⟩
  replace hb := hb.ext K_4
  replace hD := hD.ext K_4
  replace K0 := K0.ext K_4
  refine RL.val (x_assignSl rfl) ?_
  refine RL.nil ?_
  refine Run.ret1 (v := .slice (none) (0) (0)) Tryz.func18 rfl rfl ?_
  exact ⟨_, rfl, rfl, K0⟩

set_option maxRecDepth 100000 in
set_option maxHeartbeats 4000000 in
theorem readE (b d : Nat) (F : Nat → Prop) (room : Int) (w : World) (hb : Blk w b [.pointer (some ⟨d, 0, none⟩)] 42) (hD : DiskAt w d F room []) (hbd : ¬ F b) :
    Calls Tryz.prog 41 #[.pointer (some ⟨b, 0, none⟩)] w (Ret (fun v w' => v = .tuple #[.slice (none) (0) (0), .int .i64 (0)] ∧ Ext w w')) := by
  refine calls_run (n := 71) Tryz.func41 rfl rfl rfl ?_
  refine Run.seq ?_
  refine Run.region ?_
  refine RL.val (x_assignSl rfl) ?_
  refine RL.val (x_assignI rfl) ?_
  refine RL.nil ?_
  refine Run.scope ?_
  refine Run.seq ?_
  refine Run.region ?_
  refine RL.val (x_assignSl rfl) ?_
  refine RL.nil ?_
  refine Run.seq ?_
  refine Run.region ?_
  refine RL.val (x_moveP rfl) ?_
  refine RL.st rfl <| St1.call (vals := [.pointer (some ⟨b, 0, none⟩)]) en54 rfl (segsE _ _ _ _ _ hb hD hbd) ?_
  rintro _ w_1 ⟨rfl, K_2⟩
  replace hb := hb.ext K_2
  replace hD := hD.ext K_2
  have K0 := (K_2 : Ext w _)
  refine RL.val (x_assignSl rfl) ?_
  refine RL.nil ?_
  refine Run.seq ?_
  refine Run.label ?_
  refine Run.seq ?_
  refine Run.seq ?_
  refine Run.region ?_
  refine RL.val (x_moveSl rfl) ?_
  refine RL.val (litI (c := 0) (x_lenSl Tryz.underlying47 rfl) rfl) ?_
  refine RL.val (x_moveI rfl) ?_
  refine RL.nil ?_
  refine Run.block ?_
  refine Run.unloop ?_
  refine Run.seq ?_
  refine Run.region ?_
  refine RL.val (litF (x_ltI rfl rfl) (by decide)) ?_
  refine RL.nil ?_
  refine Run.seq ?_
  refine Run.condF rfl ?_
  refine Run.exit rfl ?_
  refine Run.seq ?_
  refine Run.region ?_
  refine RL.val (x_moveSl rfl) ?_
  refine RL.val (x_assignSl rfl) ?_
  refine RL.val (x_assignI rfl) ?_
  refine RL.nil ?_
  refine Run.ret2 (v := .slice (none) (0) (0)) (x := .int .i64 (0)) Tryz.func41 rfl rfl rfl ?_
  exact ⟨_, rfl, rfl, K0⟩

set_option maxRecDepth 100000 in
set_option maxHeartbeats 4000000 in
theorem open_nil (w : World) :
    Calls Tryz.prog 9 #[.pointer none] w (Ret (fun v w' => v = .tuple #[.pointer none, .slice none 0 0, .int .i64 8] ∧ Ext w w')) := by
  refine calls_run (n := 60) Tryz.func9 rfl rfl rfl ?_
  refine Run.seq ?_
  refine Run.region ?_
  refine RL.val (x_assignP rfl) ?_
  refine RL.val (x_assignSl rfl) ?_
  refine RL.val (x_assignI rfl) ?_
  refine RL.nil ?_
  refine Run.seq ?_
  refine Run.region ?_
  refine RL.val (x_moveP rfl) ?_
  refine RL.st rfl <| St1.call (vals := [.pointer none, .string (⟨#[108, 111, 103, 46, 110, 101, 119]⟩)]) en39 rfl (Size_nil ⟨#[108, 111, 103, 46, 110, 101, 119]⟩ _) ?_
  rintro _ w_1 ⟨rfl, K_2⟩
  have K0 := (K_2 : Ext w _)
  refine RL.val (x_moveT rfl) ?_
  refine RL.val (x_extract rfl rfl) ?_
  refine RL.val (x_extract rfl rfl) ?_
  refine RL.val (x_extract rfl rfl) ?_
  refine RL.val (x_assignI rfl) ?_
  refine RL.val (x_assignI rfl) ?_
  refine RL.val (x_assignI rfl) ?_
  refine RL.nil ?_
  refine Run.seq ?_
  refine Run.seq ?_
  refine Run.region ?_
  refine RL.val (x_moveI rfl) ?_
  refine RL.nil ?_
  refine Run.block ?_
  refine Run.seq ?_
  refine Run.region ?_
  refine RL.val (litT (x_eqI rfl rfl) (by decide)) ?_
  refine RL.val (x_assignB rfl) ?_
  refine RL.nil ?_
  refine Run.condT rfl ?_
  refine Run.seq ?_
  refine Run.region ?_
  refine RL.val (x_moveI rfl) ?_
  refine RL.val (x_assignP rfl) ?_
  refine RL.val (x_assignSl rfl) ?_
  refine RL.val (x_assignI rfl) ?_
  refine RL.nil ?_
  refine Run.ret3 (v := .pointer none) (x := .slice (none) (0) (0)) (y := .int .i64 (8)) Tryz.func9 rfl rfl rfl rfl ?_
  exact ⟨_, rfl, rfl, K0⟩

set_option maxRecDepth 100000 in
set_option maxHeartbeats 4000000 in
theorem open_zero (b : Nat) (w : World) (hb : Blk w b [.map none, .int .i64 (0)] 51) :
    Calls Tryz.prog 9 #[.pointer (some ⟨b, 0, none⟩)] w (Ret (fun v w' => v = .tuple #[.pointer none, .slice none 0 0, .int .i64 8] ∧ Ext w w')) := by
  refine calls_run (n := 60) Tryz.func9 rfl rfl rfl ?_
  refine Run.seq ?_
  refine Run.region ?_
  refine RL.val (x_assignP rfl) ?_
  refine RL.val (x_assignSl rfl) ?_
  refine RL.val (x_assignI rfl) ?_
  refine RL.nil ?_
  refine Run.seq ?_
  refine Run.region ?_
  refine RL.val (x_moveP rfl) ?_
  refine RL.st rfl <| St1.call (vals := [.pointer (some ⟨b, 0, none⟩), .string (⟨#[108, 111, 103, 46, 110, 101, 119]⟩)]) en39 rfl (Size_zero _ ⟨#[108, 111, 103, 46, 110, 101, 119]⟩ _ hb) ?_
  rintro _ w_1 ⟨rfl, K_2⟩
  replace hb := hb.ext K_2
  have K0 := (K_2 : Ext w _)
  refine RL.val (x_moveT rfl) ?_
  refine RL.val (x_extract rfl rfl) ?_
  refine RL.val (x_extract rfl rfl) ?_
  refine RL.val (x_extract rfl rfl) ?_
  refine RL.val (x_assignI rfl) ?_
  refine RL.val (x_assignI rfl) ?_
  refine RL.val (x_assignI rfl) ?_
  refine RL.nil ?_
  refine Run.seq ?_
  refine Run.seq ?_
  refine Run.region ?_
  refine RL.val (x_moveI rfl) ?_
  refine RL.nil ?_
  refine Run.block ?_
  refine Run.seq ?_
  refine Run.region ?_
  refine RL.val (litT (x_eqI rfl rfl) (by decide)) ?_
  refine RL.val (x_assignB rfl) ?_
  refine RL.nil ?_
  refine Run.condT rfl ?_
  refine Run.seq ?_
  refine Run.region ?_
  refine RL.val (x_moveI rfl) ?_
  refine RL.val (x_assignP rfl) ?_
  refine RL.val (x_assignSl rfl) ?_
  refine RL.val (x_assignI rfl) ?_
  refine RL.nil ?_
  refine Run.ret3 (v := .pointer none) (x := .slice (none) (0) (0)) (y := .int .i64 (8)) Tryz.func9 rfl rfl rfl rfl ?_
  exact ⟨_, rfl, rfl, K0⟩

set_option maxRecDepth 100000 in
set_option maxHeartbeats 4000000 in
theorem openE (d : Nat) (F : Nat → Prop) (room : Int) (w : World) (hD : DiskAt w d F room []) :
    Calls Tryz.prog 9 #[.pointer (some ⟨d, 0, none⟩)] w (Ret (fun v w' => ∃ b, v = .tuple #[.pointer (some ⟨b, 0, none⟩), .slice none 0 0, .int .i64 0] ∧ Blk w' b [.pointer (some ⟨d, 0, none⟩)] 42 ∧ w.heap.size ≤ b ∧ Ext w w')) := by
  refine calls_run (n := 60) Tryz.func9 rfl rfl rfl ?_
  refine Run.seq ?_
  refine Run.region ?_
  refine RL.val (x_assignP rfl) ?_
  refine RL.val (x_assignSl rfl) ?_
  refine RL.val (x_assignI rfl) ?_
  refine RL.nil ?_
  refine Run.seq ?_
  refine Run.region ?_
  refine RL.val (x_moveP rfl) ?_
  refine RL.st rfl <| St1.call (vals := [.pointer (some ⟨d, 0, none⟩), .string (⟨#[108, 111, 103, 46, 110, 101, 119]⟩)]) en39 rfl (sizeD hD ⟨#[108, 111, 103, 46, 110, 101, 119]⟩ (by first | omega | decide)) ?_
  rintro _ w_1 ⟨rfl, K_2⟩
  replace hD := hD.ext K_2
  have K0 := (K_2 : Ext w _)
  refine RL.val (x_moveT rfl) ?_
  refine RL.val (x_extract rfl rfl) ?_
  refine RL.val (x_extract rfl rfl) ?_
  refine RL.val (litI (c := 20) (x_extract rfl rfl) look_log) ?_
  refine RL.val (x_assignI rfl) ?_
  refine RL.val (x_assignI rfl) ?_
  refine RL.val (x_assignI rfl) ?_
  refine RL.nil ?_
  refine Run.seq ?_
  refine Run.seq ?_
  refine Run.region ?_
  refine RL.val (x_moveI rfl) ?_
  refine RL.nil ?_
  refine Run.block ?_
  refine Run.seq ?_
  refine Run.region ?_
  refine RL.val (litF (x_eqI rfl rfl) (by decide)) ?_
  refine RL.val (x_assignB rfl) ?_
  refine RL.nil ?_
  refine Run.condF rfl ?_
  refine Run.seq ?_
  refine Run.region ?_
  refine RL.val (litF (x_eqI rfl rfl) (by decide)) ?_
  refine RL.val (x_assignB rfl) ?_
  refine RL.nil ?_
  refine Run.condF rfl ?_
  refine Run.skip ?_
  refine Run.inBlock ?_
  refine Run.seq ?_
  refine Run.region ?_
  refine RL.val (x_moveP rfl) ?_
  refine RL.val (x_build (cells := #[.pointer (some ⟨d, 0, none⟩)]) (by kernel_rfl)) ?_
  refine RL.val (x_build (cells := #[.pointer (some ⟨d, 0, none⟩)]) (by kernel_rfl)) ?_
  refine RL.st rfl <| St1.box (v := .agg #[.pointer (some ⟨d, 0, none⟩)]) rfl ?_
  intro b_3 w_4 hl_7 hb_6 K_5
  replace hb_6 : Blk w_4 b_3 [.pointer (some ⟨d, 0, none⟩)] 42 := hb_6
  have pr_8 : ¬ F b_3 := fun h => absurd (hD.own_lt _ h) (by omega)
  have : w.heap.size ≤ b_3 := Nat.le_trans K0.size hl_7
  clear hl_7
  replace hD := hD.ext K_5
  replace K0 := K0.ext K_5
  refine RL.val (x_assignP rfl) ?_
  refine RL.nil ?_
  refine Run.seq ?_
  refine Run.region ?_
  refine RL.val (x_moveP rfl) ?_
  refine RL.val (x_nilCheck rfl) ?_
  refine RL.val (x_fld (o' := 0) Tryz.underlying42 rfl ty40 rfl rfl rfl) ?_
  refine RL.st rfl <| St1.call (vals := [.pointer (some ⟨b_3, 0, none⟩)]) en41 rfl (readE _ _ _ _ _ hb_6 hD pr_8) ?_
  rintro _ w_9 ⟨rfl, K_10⟩
  replace hD := hD.ext K_10
  replace hb_6 := hb_6.ext K_10
  replace K0 := K0.ext K_10
  refine RL.val (x_moveT rfl) ?_
  refine RL.val (x_extract rfl rfl) ?_
  refine RL.val (x_extract rfl rfl) ?_
  refine RL.val (x_assignSl rfl) ?_
  refine RL.val (x_assignI rfl) ?_
  refine RL.nil ?_
  refine Run.seq ?_
  refine Run.seq ?_
  refine Run.region ?_
  refine RL.val (x_moveI rfl) ?_
  refine RL.val (litF (x_neI rfl rfl) (by decide)) ?_
  refine RL.nil ?_
  refine Run.condF rfl ?_
  refine Run.skip ?_
  refine Run.seq ?_
  refine Run.seq ?_
  refine Run.region ?_
  refine RL.val (x_moveP rfl) ?_
  refine RL.st rfl <| St1.call (vals := [.pointer (some ⟨b_3, 0, none⟩)]) en18 rfl (lsegsE _ _ _ _ _ hb_6 hD pr_8) ?_
  rintro _ w_11 ⟨rfl, K_12⟩
  replace hD := hD.ext K_12
  replace hb_6 := hb_6.ext K_12
  replace K0 := K0.ext K_12
  refine RL.val (litI (c := 0) (x_lenSl Tryz.underlying47 rfl) rfl) ?_
  refine RL.val (x_moveI rfl) ?_
  refine RL.nil ?_
  refine Run.block ?_
  refine Run.unloop ?_
  refine Run.seq ?_
  refine Run.region ?_
  refine RL.val (litF (x_ltI rfl rfl) (by decide)) ?_
  refine RL.nil ?_
  refine Run.seq ?_
  refine Run.condF rfl ?_
  refine Run.exit rfl ?_
  refine Run.seq ?_
  refine Run.region ?_
  refine RL.val (x_moveP rfl) ?_
  refine RL.val (x_moveSl rfl) ?_
  refine RL.val (x_assignP rfl) ?_
  refine RL.val (x_assignSl rfl) ?_
  refine RL.val (x_assignI rfl) ?_
  refine RL.nil ?_
  refine Run.ret3 (v := .pointer (some ⟨b_3, 0, none⟩)) (x := .slice (none) (0) (0)) (y := .int .i64 (0)) Tryz.func9 rfl rfl rfl rfl ?_
  exact ⟨_, rfl, b_3, rfl, hb_6, by omega, K0⟩

set_option maxRecDepth 100000 in
set_option maxHeartbeats 4000000 in
theorem begun_ (w : World) :
    Calls Tryz.prog 20 #[] w (Ret (fun v w' => ∃ d b F, v = .tuple #[.pointer (some ⟨d, 0, none⟩), .pointer (some ⟨b, 0, none⟩), .bool true] ∧ DiskAt w' d F 4194304 [] ∧ Blk w' b [.pointer (some ⟨d, 0, none⟩)] 42 ∧ ¬ F b ∧ (∀ q, F q → w.heap.size ≤ q) ∧ w.heap.size ≤ b ∧ Ext w w')) := by
  refine calls_run (n := 35) Tryz.func20 rfl rfl rfl ?_
  refine Run.seq ?_
  refine Run.region ?_
  refine RL.val (x_assignP rfl) ?_
  refine RL.val (x_assignP rfl) ?_
  refine RL.val (x_assignB rfl) ?_
  refine RL.nil ?_
  refine Run.seq ?_
  refine Run.region ?_
  refine RL.st rfl <| St1.call (vals := [.int .i64 (4194304)]) en8 rfl (newD 4194304 _) ?_
  rintro _ w_3 (⟨hnr, rfl, K_6⟩ | ⟨hrm, d_1, F_2, rfl, hD_4, hg_5, K_6⟩)
  · exact absurd (by decide) hnr
  · have pg_7 : ∀ q_, F_2 q_ → w.heap.size ≤ q_ := fun q_ h => Nat.le_trans (Nat.le_refl _) (hg_5 q_ h)
    clear hg_5
    have K0 := (K_6 : Ext w _)
    refine RL.val (x_moveT rfl) ?_
    refine RL.val (x_extract rfl rfl) ?_
    refine RL.val (x_extract rfl rfl) ?_
    refine RL.val (x_assignP rfl) ?_
    refine RL.val (x_assignI rfl) ?_
    refine RL.nil ?_
    refine Run.seq ?_
    refine Run.region ?_
    refine RL.val (x_moveP rfl) ?_
    refine RL.st rfl <| St1.call (vals := [.pointer (some ⟨d_1, 0, none⟩)]) en9 rfl (openE _ _ _ _ hD_4) ?_
    rintro _ w_9 ⟨b_8, rfl, hb_10, hl_11, K_12⟩
    have pr_13 : ¬ F_2 b_8 := fun h_ => absurd (hD_4.own_lt _ h_) (by omega)
    have : w.heap.size ≤ b_8 := Nat.le_trans K0.size hl_11
    replace hD_4 := hD_4.ext K_12
    replace K0 := K0.ext K_12
    refine RL.val (x_moveT rfl) ?_
    refine RL.val (x_extract rfl rfl) ?_
    refine RL.val (x_extract rfl rfl) ?_
    refine RL.val (x_extract rfl rfl) ?_
    refine RL.val (x_assignP rfl) ?_
    refine RL.val (x_assignSl rfl) ?_
    refine RL.val (x_assignI rfl) ?_
    refine RL.nil ?_
    refine Run.seq ?_
    refine Run.region ?_
    refine RL.val (x_moveP rfl) ?_
    refine RL.val (x_moveP rfl) ?_
    refine RL.val (x_moveI rfl) ?_
    refine RL.val (litT (x_eqI rfl rfl) (by decide)) ?_
    refine RL.val (x_moveB rfl) ?_
    refine RL.gst (wantedT1 rfl rfl rfl rfl) <| St1.val (x_moveI rfl) ?_
    refine RL.gst (wantedT1 rfl rfl rfl rfl) <| St1.val (litT (x_eqI rfl rfl) (by decide)) ?_
    refine RL.val (x_andT rfl rfl rfl) ?_
    refine RL.val (x_moveB rfl) ?_
    refine RL.gst (wantedT1 rfl rfl rfl rfl) <| St1.val (x_moveSl rfl) ?_
    refine RL.gst (wantedT1 rfl rfl rfl rfl) <| St1.val (litI (c := 0) (x_lenSl Tryz.underlying22 rfl) rfl) ?_
    refine RL.gst (wantedT1 rfl rfl rfl rfl) <| St1.val (litT (x_eqI rfl rfl) (by decide)) ?_
    refine RL.val (x_andT rfl rfl rfl) ?_
    refine RL.val (x_moveB rfl) ?_
    refine RL.gst (wantedT1 rfl rfl rfl rfl) <| St1.val (x_moveP rfl) ?_
    refine RL.gst (wantedT1 rfl rfl rfl rfl) <| St1.val (litT (x_ptrNotNil Tryz.underlying28 rfl rfl) rfl) ?_
    refine RL.val (x_andT rfl rfl rfl) ?_
    refine RL.val (x_assignP rfl) ?_
    refine RL.val (x_assignP rfl) ?_
    refine RL.val (x_assignB rfl) ?_
    refine RL.nil ?_
    refine Run.ret3 (v := .pointer (some ⟨d_1, 0, none⟩)) (x := .pointer (some ⟨b_8, 0, none⟩)) (y := .bool (true)) Tryz.func20 rfl rfl rfl rfl ?_
    exact ⟨_, rfl, d_1, b_8, F_2, rfl, hD_4, hb_10, pr_13, pg_7, by omega, K0⟩

set_option maxRecDepth 100000 in
set_option maxHeartbeats 4000000 in
theorem law_nobody (a : Option Addr) (xs : List UInt8) (c : Nat) (w : World) (hs : SlOf w a xs) (hl : xs.length ≤ 1048576) :
    Calls Tryz.prog 4 #[.slice (a) (xs.length) (c)] w (Ret (fun v w' => v = .bool true ∧ Ext w w')) := by
  refine calls_run (n := 80) Tryz.func4 rfl rfl rfl ?_
  refine Run.seq ?_
  refine Run.region ?_
  refine RL.val (x_assignB rfl) ?_
  refine RL.nil ?_
  refine Run.seq ?_
  refine Run.seq ?_
  refine Run.region ?_
  refine RL.val (x_build (cells := #[.pointer none]) (by kernel_rfl)) ?_
  refine RL.st rfl <| St1.box (v := .agg #[.pointer none]) rfl ?_
  intro b_1 w_2 hl_5 hb_4 K_3
  replace hb_4 : Blk w_2 b_1 [.pointer none] 42 := hb_4
  have : w.heap.size ≤ b_1 := hl_5
  clear hl_5
  have K0 := (K_3 : Ext w _)
  refine RL.st rfl <| St1.buildSlice ([(none : Option Addr), some (⟨b_1, 0, none⟩ : Addr)] : List (Option Addr)) Tryz.underlying43 ty28 rfl rfl (by first | decide | (simp [Enc.size])) ?_
  intro b_6 w_7 hl_10 ho_9 K_8
  have pr_11 : ¬ own (some ⟨b_6, 0, none⟩) b_1 := notNew (ge_new hl_10) hb_4.lt
  have pg_12 : ∀ q_, own (some ⟨b_6, 0, none⟩) q_ → w.heap.size ≤ q_ := fun q_ h => Nat.le_trans K0.size ((ge_new hl_10) q_ h)
  clear hl_10
  replace hb_4 := hb_4.ext K_8
  replace K0 := K0.ext K_8
  refine RL.val (litI (c := 2) (x_lenSl Tryz.underlying43 rfl) rfl) ?_
  refine RL.val (x_moveI rfl) ?_
  refine RL.nil ?_
  refine Run.block ?_
  refine Run.unloop ?_
  refine Run.seq ?_
  refine Run.region ?_
  refine RL.val (litT (x_ltI rfl rfl) (by decide)) ?_
  refine RL.nil ?_
  refine Run.seq ?_
  refine Run.condT rfl ?_
  refine Run.skip ?_
  refine Run.seq ?_
  refine Run.block ?_
  refine Run.seq ?_
  refine Run.region ?_
  obtain ⟨b_13, o_14, x_17, hx_18, ha_15, hc_16⟩ := ho_9.sl.el (i := 0) (by simp)
  obtain rfl : (none : Option Addr) = x_17 := Option.some.inj hx_18
  refine RL.val (x_idxN Tryz.underlying43 ty28 rfl rfl ha_15 (by simp)) ?_
  refine RL.val (x_ldV (v := .pointer none) (y := (none : Option Addr)) ty28 rfl hc_16 rfl) ?_
  refine RL.val (x_assignP rfl) ?_
  refine RL.nil ?_
  refine Run.seq ?_
  refine Run.region ?_
  refine RL.val (x_moveP rfl) ?_
  refine RL.val (x_moveSl rfl) ?_
  refine RL.st rfl <| St1.call (vals := [.slice (a) (xs.length) (c)]) en15 rfl (clone_b _ _ _ _ (hs.ext K0) (by omega)) ?_
  rintro _ w_21 ⟨a_19, c_20, rfl, ho_22, hg_23, K_24⟩
  have pr_25 : ¬ own a_19 b_1 := notNew hg_23 hb_4.lt
  have pr_26 : ∀ q_, own a_19 q_ → ¬ own (some ⟨b_6, 0, none⟩) q_ := apartNew hg_23 ho_9.own_lt
  have pg_27 : ∀ q_, own a_19 q_ → w.heap.size ≤ q_ := fun q_ h => Nat.le_trans K0.size (hg_23 q_ h)
  clear hg_23
  replace hb_4 := hb_4.ext K_24
  replace ho_9 := ho_9.ext K_24
  replace K0 := K0.ext K_24
  refine RL.st rfl <| St1.call (vals := [.pointer none, .slice (a_19) (xs.length) (c_20)]) en13 rfl (lAppend_nil a_19 xs.length c_20 _) ?_
  rintro _ w_28 ⟨rfl, K_29⟩
  replace hb_4 := hb_4.ext K_29
  replace ho_9 := ho_9.ext K_29
  replace ho_22 := ho_22.ext K_29
  replace K0 := K0.ext K_29
  refine RL.val (litF (x_neI rfl rfl) (by decide)) ?_
  refine RL.val (x_moveB rfl) ?_
  refine RL.gst (wantedF1 rfl rfl rfl rfl) <| St1.val (x_moveP rfl) ?_
  refine RL.gst (wantedF1 rfl rfl rfl rfl) <| St1.call (vals := [.pointer none]) en16 rfl (lSync_nil  _) ?_
  rintro _ w_30 ⟨rfl, K_31⟩
  replace hb_4 := hb_4.ext K_31
  replace ho_9 := ho_9.ext K_31
  replace ho_22 := ho_22.ext K_31
  replace K0 := K0.ext K_31
  refine RL.gst (wantedF1 rfl rfl rfl rfl) <| St1.val (litF (x_neI rfl rfl) (by decide)) ?_
  refine RL.val (x_orF rfl rfl rfl) ?_
  refine RL.val (x_moveB rfl) ?_
  refine RL.gst (wantedF1 rfl rfl rfl rfl) <| St1.val (x_moveP rfl) ?_
  refine RL.gst (wantedF1 rfl rfl rfl rfl) <| St1.call (vals := [.pointer none, .slice (none) (0) (0)]) en17 rfl (lReplace_nil none 0 0 _) ?_
  rintro _ w_32 ⟨rfl, K_33⟩
  replace hb_4 := hb_4.ext K_33
  replace ho_9 := ho_9.ext K_33
  replace ho_22 := ho_22.ext K_33
  replace K0 := K0.ext K_33
  refine RL.gst (wantedF1 rfl rfl rfl rfl) <| St1.val (litF (x_neI rfl rfl) (by decide)) ?_
  refine RL.val (x_orF rfl rfl rfl) ?_
  refine RL.val (x_moveB rfl) ?_
  refine RL.gst (wantedF1 rfl rfl rfl rfl) <| St1.val (x_moveP rfl) ?_
  refine RL.gst (wantedF1 rfl rfl rfl rfl) <| St1.call (vals := [.pointer none]) en18 rfl (lSegments_nil  _) ?_
  rintro _ w_34 ⟨rfl, K_35⟩
  replace hb_4 := hb_4.ext K_35
  replace ho_9 := ho_9.ext K_35
  replace ho_22 := ho_22.ext K_35
  replace K0 := K0.ext K_35
  refine RL.gst (wantedF1 rfl rfl rfl rfl) <| St1.val (litI (c := 0) (x_lenSl Tryz.underlying47 rfl) rfl) ?_
  refine RL.gst (wantedF1 rfl rfl rfl rfl) <| St1.val (litF (x_gtI rfl rfl) (by decide)) ?_
  refine RL.val (x_orF rfl rfl rfl) ?_
  refine RL.val (x_moveB rfl) ?_
  refine RL.gst (wantedF1 rfl rfl rfl rfl) <| St1.val (x_moveP rfl) ?_
  refine RL.gst (wantedF1 rfl rfl rfl rfl) <| St1.call (vals := [.pointer none]) en19 rfl (lBytes_nil  _) ?_
  rintro _ w_36 ⟨rfl, K_37⟩
  replace hb_4 := hb_4.ext K_37
  replace ho_9 := ho_9.ext K_37
  replace ho_22 := ho_22.ext K_37
  replace K0 := K0.ext K_37
  refine RL.gst (wantedF1 rfl rfl rfl rfl) <| St1.val (litF (x_neI rfl rfl) (by decide)) ?_
  refine RL.val (x_orF rfl rfl rfl) ?_
  refine RL.nil ?_
  refine Run.condF rfl ?_
  refine Run.skip ?_
  refine Run.inBlock ?_
  refine Run.region ?_
  refine RL.val (litI (c := 1) (x_add rfl rfl (by decide) (by decide)) (by decide)) ?_
  refine RL.val (x_moveI rfl) ?_
  refine RL.nil ?_
  refine Run.inLoop ?_
  refine Run.seq ?_
  refine Run.region ?_
  refine RL.val (litT (x_ltI rfl rfl) (by decide)) ?_
  refine RL.nil ?_
  refine Run.seq ?_
  refine Run.condT rfl ?_
  refine Run.skip ?_
  refine Run.seq ?_
  refine Run.block ?_
  refine Run.seq ?_
  refine Run.region ?_
  obtain ⟨b_38, o_39, x_42, hx_43, ha_40, hc_41⟩ := ho_9.sl.el (i := 1) (by simp)
  obtain rfl : some (⟨b_1, 0, none⟩ : Addr) = x_42 := Option.some.inj hx_43
  refine RL.val (x_idxN Tryz.underlying43 ty28 rfl rfl ha_40 (by simp)) ?_
  refine RL.val (x_ldV (v := .pointer (some ⟨b_1, 0, none⟩)) (y := some (⟨b_1, 0, none⟩ : Addr)) ty28 rfl hc_41 rfl) ?_
  refine RL.val (x_assignP rfl) ?_
  refine RL.nil ?_
  refine Run.seq ?_
  refine Run.region ?_
  refine RL.val (x_moveP rfl) ?_
  refine RL.val (x_moveSl rfl) ?_
  refine RL.st rfl <| St1.call (vals := [.slice (a) (xs.length) (c)]) en15 rfl (clone_b _ _ _ _ (hs.ext K0) (by omega)) ?_
  rintro _ w_46 ⟨a_44, c_45, rfl, ho_47, hg_48, K_49⟩
  have pr_50 : ¬ own a_44 b_1 := notNew hg_48 hb_4.lt
  have pr_51 : ∀ q_, own a_44 q_ → ¬ own (some ⟨b_6, 0, none⟩) q_ := apartNew hg_48 ho_9.own_lt
  have pr_52 : ∀ q_, own a_44 q_ → ¬ own a_19 q_ := apartNew hg_48 ho_22.own_lt
  have pg_53 : ∀ q_, own a_44 q_ → w.heap.size ≤ q_ := fun q_ h => Nat.le_trans K0.size (hg_48 q_ h)
  clear hg_48
  replace hb_4 := hb_4.ext K_49
  replace ho_9 := ho_9.ext K_49
  replace ho_22 := ho_22.ext K_49
  replace K0 := K0.ext K_49
  refine RL.st rfl <| St1.call (vals := [.pointer (some ⟨b_1, 0, none⟩), .slice (a_44) (xs.length) (c_45)]) en13 rfl (lAppend_zero _ a_44 xs.length c_45 _ hb_4) ?_
  rintro _ w_54 ⟨rfl, K_55⟩
  replace hb_4 := hb_4.ext K_55
  replace ho_9 := ho_9.ext K_55
  replace ho_22 := ho_22.ext K_55
  replace ho_47 := ho_47.ext K_55
  replace K0 := K0.ext K_55
  refine RL.val (litF (x_neI rfl rfl) (by decide)) ?_
  refine RL.val (x_moveB rfl) ?_
  refine RL.gst (wantedF1 rfl rfl rfl rfl) <| St1.val (x_moveP rfl) ?_
  refine RL.gst (wantedF1 rfl rfl rfl rfl) <| St1.call (vals := [.pointer (some ⟨b_1, 0, none⟩)]) en16 rfl (lSync_zero _  _ hb_4) ?_
  rintro _ w_56 ⟨rfl, K_57⟩
  replace hb_4 := hb_4.ext K_57
  replace ho_9 := ho_9.ext K_57
  replace ho_22 := ho_22.ext K_57
  replace ho_47 := ho_47.ext K_57
  replace K0 := K0.ext K_57
  refine RL.gst (wantedF1 rfl rfl rfl rfl) <| St1.val (litF (x_neI rfl rfl) (by decide)) ?_
  refine RL.val (x_orF rfl rfl rfl) ?_
  refine RL.val (x_moveB rfl) ?_
  refine RL.gst (wantedF1 rfl rfl rfl rfl) <| St1.val (x_moveP rfl) ?_
  refine RL.gst (wantedF1 rfl rfl rfl rfl) <| St1.call (vals := [.pointer (some ⟨b_1, 0, none⟩), .slice (none) (0) (0)]) en17 rfl (lReplace_zero _ none 0 0 _ hb_4) ?_
  rintro _ w_58 ⟨rfl, K_59⟩
  replace hb_4 := hb_4.ext K_59
  replace ho_9 := ho_9.ext K_59
  replace ho_22 := ho_22.ext K_59
  replace ho_47 := ho_47.ext K_59
  replace K0 := K0.ext K_59
  refine RL.gst (wantedF1 rfl rfl rfl rfl) <| St1.val (litF (x_neI rfl rfl) (by decide)) ?_
  refine RL.val (x_orF rfl rfl rfl) ?_
  refine RL.val (x_moveB rfl) ?_
  refine RL.gst (wantedF1 rfl rfl rfl rfl) <| St1.val (x_moveP rfl) ?_
  refine RL.gst (wantedF1 rfl rfl rfl rfl) <| St1.call (vals := [.pointer (some ⟨b_1, 0, none⟩)]) en18 rfl (lSegments_zero _  _ hb_4) ?_
  rintro _ w_60 ⟨rfl, K_61⟩
  replace hb_4 := hb_4.ext K_61
  replace ho_9 := ho_9.ext K_61
  replace ho_22 := ho_22.ext K_61
  replace ho_47 := ho_47.ext K_61
  replace K0 := K0.ext K_61
  refine RL.gst (wantedF1 rfl rfl rfl rfl) <| St1.val (litI (c := 0) (x_lenSl Tryz.underlying47 rfl) rfl) ?_
  refine RL.gst (wantedF1 rfl rfl rfl rfl) <| St1.val (litF (x_gtI rfl rfl) (by decide)) ?_
  refine RL.val (x_orF rfl rfl rfl) ?_
  refine RL.val (x_moveB rfl) ?_
  refine RL.gst (wantedF1 rfl rfl rfl rfl) <| St1.val (x_moveP rfl) ?_
  refine RL.gst (wantedF1 rfl rfl rfl rfl) <| St1.call (vals := [.pointer (some ⟨b_1, 0, none⟩)]) en19 rfl (lBytes_zero _  _ hb_4) ?_
  rintro _ w_62 ⟨rfl, K_63⟩
  replace hb_4 := hb_4.ext K_63
  replace ho_9 := ho_9.ext K_63
  replace ho_22 := ho_22.ext K_63
  replace ho_47 := ho_47.ext K_63
  replace K0 := K0.ext K_63
  refine RL.gst (wantedF1 rfl rfl rfl rfl) <| St1.val (litF (x_neI rfl rfl) (by decide)) ?_
  refine RL.val (x_orF rfl rfl rfl) ?_
  refine RL.nil ?_
  refine Run.condF rfl ?_
  refine Run.skip ?_
  refine Run.inBlock ?_
  refine Run.region ?_
  refine RL.val (litI (c := 2) (x_add rfl rfl (by decide) (by decide)) (by decide)) ?_
  refine RL.val (x_moveI rfl) ?_
  refine RL.nil ?_
  refine Run.inLoop ?_
  refine Run.seq ?_
  refine Run.region ?_
  refine RL.val (litF (x_ltI rfl rfl) (by decide)) ?_
  refine RL.nil ?_
  refine Run.seq ?_
  refine Run.condF rfl ?_
  refine Run.exit rfl ?_
  refine Run.seq ?_
  refine Run.seq ?_
  refine Run.region ?_
  refine RL.val (x_build (cells := #[.map none, .int .i64 (0)]) (by kernel_rfl)) ?_
  refine RL.st rfl <| St1.box (v := .agg #[.map none, .int .i64 (0)]) rfl ?_
  intro b_64 w_65 hl_68 hb_67 K_66
  replace hb_67 : Blk w_65 b_64 [.map none, .int .i64 (0)] 51 := hb_67
  have ne_69 : b_1 < b_64 := Nat.lt_of_lt_of_le hb_4.lt hl_68
  have pr_70 : ¬ own (some ⟨b_6, 0, none⟩) b_64 := fun h => absurd (ho_9.own_lt _ h) (by omega)
  have pr_71 : ¬ own a_19 b_64 := fun h => absurd (ho_22.own_lt _ h) (by omega)
  have pr_72 : ¬ own a_44 b_64 := fun h => absurd (ho_47.own_lt _ h) (by omega)
  have : w.heap.size ≤ b_64 := Nat.le_trans K0.size hl_68
  clear hl_68
  replace hb_4 := hb_4.ext K_66
  replace ho_9 := ho_9.ext K_66
  replace ho_22 := ho_22.ext K_66
  replace ho_47 := ho_47.ext K_66
  replace K0 := K0.ext K_66
  refine RL.st rfl <| St1.buildSlice ([(none : Option Addr), some (⟨b_64, 0, none⟩ : Addr)] : List (Option Addr)) Tryz.underlying52 ty24 rfl rfl (by first | decide | (simp [Enc.size])) ?_
  intro b_73 w_74 hl_77 ho_76 K_75
  have pr_78 : ¬ own (some ⟨b_73, 0, none⟩) b_1 := notNew (ge_new hl_77) hb_4.lt
  have pr_79 : ∀ q_, own (some ⟨b_73, 0, none⟩) q_ → ¬ own (some ⟨b_6, 0, none⟩) q_ := apartNew (ge_new hl_77) ho_9.own_lt
  have pr_80 : ∀ q_, own (some ⟨b_73, 0, none⟩) q_ → ¬ own a_19 q_ := apartNew (ge_new hl_77) ho_22.own_lt
  have pr_81 : ∀ q_, own (some ⟨b_73, 0, none⟩) q_ → ¬ own a_44 q_ := apartNew (ge_new hl_77) ho_47.own_lt
  have pr_82 : ¬ own (some ⟨b_73, 0, none⟩) b_64 := notNew (ge_new hl_77) hb_67.lt
  have pg_83 : ∀ q_, own (some ⟨b_73, 0, none⟩) q_ → w.heap.size ≤ q_ := fun q_ h => Nat.le_trans K0.size ((ge_new hl_77) q_ h)
  clear hl_77
  replace hb_4 := hb_4.ext K_75
  replace ho_9 := ho_9.ext K_75
  replace ho_22 := ho_22.ext K_75
  replace ho_47 := ho_47.ext K_75
  replace hb_67 := hb_67.ext K_75
  replace K0 := K0.ext K_75
  refine RL.val (litI (c := 2) (x_lenSl Tryz.underlying52 rfl) rfl) ?_
  refine RL.val (x_moveI rfl) ?_
  refine RL.nil ?_
  refine Run.block ?_
  refine Run.unloop ?_
  refine Run.seq ?_
  refine Run.region ?_
  refine RL.val (litT (x_ltI rfl rfl) (by decide)) ?_
  refine RL.nil ?_
  refine Run.seq ?_
  refine Run.condT rfl ?_
  refine Run.skip ?_
  refine Run.seq ?_
  refine Run.block ?_
  refine Run.seq ?_
  refine Run.region ?_
  obtain ⟨b_84, o_85, x_88, hx_89, ha_86, hc_87⟩ := ho_76.sl.el (i := 0) (by simp)
  obtain rfl : (none : Option Addr) = x_88 := Option.some.inj hx_89
  refine RL.val (x_idxN Tryz.underlying52 ty24 rfl rfl ha_86 (by simp)) ?_
  refine RL.val (x_ldV (v := .pointer none) (y := (none : Option Addr)) ty24 rfl hc_87 rfl) ?_
  refine RL.val (x_assignP rfl) ?_
  refine RL.nil ?_
  refine Run.seq ?_
  refine Run.region ?_
  refine RL.val (x_moveP rfl) ?_
  refine RL.st rfl <| St1.call (vals := [.pointer none]) en9 rfl (open_nil _) ?_
  rintro _ w_90 ⟨rfl, K_91⟩
  replace hb_4 := hb_4.ext K_91
  replace ho_9 := ho_9.ext K_91
  replace ho_22 := ho_22.ext K_91
  replace ho_47 := ho_47.ext K_91
  replace hb_67 := hb_67.ext K_91
  replace ho_76 := ho_76.ext K_91
  replace K0 := K0.ext K_91
  refine RL.val (x_moveT rfl) ?_
  refine RL.val (x_extract rfl rfl) ?_
  refine RL.val (x_extract rfl rfl) ?_
  refine RL.val (x_extract rfl rfl) ?_
  refine RL.val (x_assignP rfl) ?_
  refine RL.val (x_assignSl rfl) ?_
  refine RL.val (x_assignI rfl) ?_
  refine RL.nil ?_
  refine Run.seq ?_
  refine Run.region ?_
  refine RL.val (x_moveP rfl) ?_
  refine RL.val (litF (x_ptrNotNil Tryz.underlying28 rfl rfl) rfl) ?_
  refine RL.val (x_moveB rfl) ?_
  refine RL.gst (wantedF1 rfl rfl rfl rfl) <| St1.val (x_moveSl rfl) ?_
  refine RL.gst (wantedF1 rfl rfl rfl rfl) <| St1.val (litI (c := 0) (x_lenSl Tryz.underlying22 rfl) rfl) ?_
  refine RL.gst (wantedF1 rfl rfl rfl rfl) <| St1.val (litF (x_gtI rfl rfl) (by decide)) ?_
  refine RL.val (x_orF rfl rfl rfl) ?_
  refine RL.val (x_moveB rfl) ?_
  refine RL.gst (wantedF1 rfl rfl rfl rfl) <| St1.val (x_moveI rfl) ?_
  refine RL.gst (wantedF1 rfl rfl rfl rfl) <| St1.val (litF (x_neI rfl rfl) (by decide)) ?_
  refine RL.val (x_orF rfl rfl rfl) ?_
  refine RL.nil ?_
  refine Run.condF rfl ?_
  refine Run.skip ?_
  refine Run.inBlock ?_
  refine Run.region ?_
  refine RL.val (litI (c := 1) (x_add rfl rfl (by decide) (by decide)) (by decide)) ?_
  refine RL.val (x_moveI rfl) ?_
  refine RL.nil ?_
  refine Run.inLoop ?_
  refine Run.seq ?_
  refine Run.region ?_
  refine RL.val (litT (x_ltI rfl rfl) (by decide)) ?_
  refine RL.nil ?_
  refine Run.seq ?_
  refine Run.condT rfl ?_
  refine Run.skip ?_
  refine Run.seq ?_
  refine Run.block ?_
  refine Run.seq ?_
  refine Run.region ?_
  obtain ⟨b_92, o_93, x_96, hx_97, ha_94, hc_95⟩ := ho_76.sl.el (i := 1) (by simp)
  obtain rfl : some (⟨b_64, 0, none⟩ : Addr) = x_96 := Option.some.inj hx_97
  refine RL.val (x_idxN Tryz.underlying52 ty24 rfl rfl ha_94 (by simp)) ?_
  refine RL.val (x_ldV (v := .pointer (some ⟨b_64, 0, none⟩)) (y := some (⟨b_64, 0, none⟩ : Addr)) ty24 rfl hc_95 rfl) ?_
  refine RL.val (x_assignP rfl) ?_
  refine RL.nil ?_
  refine Run.seq ?_
  refine Run.region ?_
  refine RL.val (x_moveP rfl) ?_
  refine RL.st rfl <| St1.call (vals := [.pointer (some ⟨b_64, 0, none⟩)]) en9 rfl (open_zero _ _ hb_67) ?_
  rintro _ w_98 ⟨rfl, K_99⟩
  replace hb_4 := hb_4.ext K_99
  replace ho_9 := ho_9.ext K_99
  replace ho_22 := ho_22.ext K_99
  replace ho_47 := ho_47.ext K_99
  replace hb_67 := hb_67.ext K_99
  replace ho_76 := ho_76.ext K_99
  replace K0 := K0.ext K_99
  refine RL.val (x_moveT rfl) ?_
  refine RL.val (x_extract rfl rfl) ?_
  refine RL.val (x_extract rfl rfl) ?_
  refine RL.val (x_extract rfl rfl) ?_
  refine RL.val (x_assignP rfl) ?_
  refine RL.val (x_assignSl rfl) ?_
  refine RL.val (x_assignI rfl) ?_
  refine RL.nil ?_
  refine Run.seq ?_
  refine Run.region ?_
  refine RL.val (x_moveP rfl) ?_
  refine RL.val (litF (x_ptrNotNil Tryz.underlying28 rfl rfl) rfl) ?_
  refine RL.val (x_moveB rfl) ?_
  refine RL.gst (wantedF1 rfl rfl rfl rfl) <| St1.val (x_moveSl rfl) ?_
  refine RL.gst (wantedF1 rfl rfl rfl rfl) <| St1.val (litI (c := 0) (x_lenSl Tryz.underlying22 rfl) rfl) ?_
  refine RL.gst (wantedF1 rfl rfl rfl rfl) <| St1.val (litF (x_gtI rfl rfl) (by decide)) ?_
  refine RL.val (x_orF rfl rfl rfl) ?_
  refine RL.val (x_moveB rfl) ?_
  refine RL.gst (wantedF1 rfl rfl rfl rfl) <| St1.val (x_moveI rfl) ?_
  refine RL.gst (wantedF1 rfl rfl rfl rfl) <| St1.val (litF (x_neI rfl rfl) (by decide)) ?_
  refine RL.val (x_orF rfl rfl rfl) ?_
  refine RL.nil ?_
  refine Run.condF rfl ?_
  refine Run.skip ?_
  refine Run.inBlock ?_
  refine Run.region ?_
  refine RL.val (litI (c := 2) (x_add rfl rfl (by decide) (by decide)) (by decide)) ?_
  refine RL.val (x_moveI rfl) ?_
  refine RL.nil ?_
  refine Run.inLoop ?_
  refine Run.seq ?_
  refine Run.region ?_
  refine RL.val (litF (x_ltI rfl rfl) (by decide)) ?_
  refine RL.nil ?_
  refine Run.seq ?_
  refine Run.condF rfl ?_
  refine Run.exit rfl ?_
  refine Run.seq ?_
  refine Run.region ?_
  refine RL.st rfl <| St1.call (vals := []) en20 rfl (begun_ _) ?_
  rintro _ w_103 ⟨d_100, b_101, F_102, rfl, hD_104, hb_105, hbd_106, hg_107, hl_108, K_109⟩
  have pr_110 : ¬ F_102 b_1 := notNew hg_107 hb_4.lt
  have pr_111 : ∀ q_, F_102 q_ → ¬ own (some ⟨b_6, 0, none⟩) q_ := apartNew hg_107 ho_9.own_lt
  have pr_112 : ∀ q_, F_102 q_ → ¬ own a_19 q_ := apartNew hg_107 ho_22.own_lt
  have pr_113 : ∀ q_, F_102 q_ → ¬ own a_44 q_ := apartNew hg_107 ho_47.own_lt
  have pr_114 : ¬ F_102 b_64 := notNew hg_107 hb_67.lt
  have pr_115 : ∀ q_, F_102 q_ → ¬ own (some ⟨b_73, 0, none⟩) q_ := apartNew hg_107 ho_76.own_lt
  have pg_116 : ∀ q_, F_102 q_ → w.heap.size ≤ q_ := fun q_ h => Nat.le_trans K0.size (hg_107 q_ h)
  have ne_117 : b_1 < b_101 := Nat.lt_of_lt_of_le hb_4.lt hl_108
  have pr_118 : ¬ own (some ⟨b_6, 0, none⟩) b_101 := fun h_ => absurd (ho_9.own_lt _ h_) (by omega)
  have pr_119 : ¬ own a_19 b_101 := fun h_ => absurd (ho_22.own_lt _ h_) (by omega)
  have pr_120 : ¬ own a_44 b_101 := fun h_ => absurd (ho_47.own_lt _ h_) (by omega)
  have ne_121 : b_64 < b_101 := Nat.lt_of_lt_of_le hb_67.lt hl_108
  have pr_122 : ¬ own (some ⟨b_73, 0, none⟩) b_101 := fun h_ => absurd (ho_76.own_lt _ h_) (by omega)
  have : w.heap.size ≤ b_101 := Nat.le_trans K0.size hl_108
  replace hb_4 := hb_4.ext K_109
  replace ho_9 := ho_9.ext K_109
  replace ho_22 := ho_22.ext K_109
  replace ho_47 := ho_47.ext K_109
  replace hb_67 := hb_67.ext K_109
  replace ho_76 := ho_76.ext K_109
  replace K0 := K0.ext K_109
  refine RL.val (x_moveT rfl) ?_
  refine RL.val (x_extract rfl rfl) ?_
  refine RL.val (x_extract rfl rfl) ?_
  refine RL.val (x_extract rfl rfl) ?_
  refine RL.val (x_assignP rfl) ?_
  refine RL.val (x_assignP rfl) ?_
  refine RL.val (x_assignB rfl) ?_
  refine RL.nil ?_
  refine Run.seq ?_
  refine Run.region ?_
  refine RL.val (x_moveB rfl) ?_
  refine RL.val (x_assignB rfl) ?_
  refine RL.nil ?_
  refine Run.ret1 (v := .bool (true)) Tryz.func4 rfl rfl ?_
  exact ⟨_, rfl, rfl, K0⟩

end Go.Proofs.YtlhepanmdchjoaaGreatDoor
