/-
  SeglogNames: the two names, the law.
-/
import Derived.Shelf.Strconv.Itoa3
import Derived.Lib.SmallJoins
import Derived.Test.YtaaolobdclifpaaDoorRows
import Derived.Test.YtaaolobdclifpaaDoorLoop
import Derived.Test.YtaaolobdclifpaaDoorStr
import Derived.Test.YtaaolobdclifpaaDoorPlain
namespace Go.Proofs.YtaaolobdclifpaaDoor
attribute [local irreducible] St1 RL RA RT RT1 Run

section
open Go.Shelf
def itoaL_ren : Go.Shelf.Ren := ⟨fun | 171 => 6 | 243 => 7 | 246 => 8 | 283 => 9 | 284 => 10 | 285 => 11 | 286 => 12 | 129 => 14 | 317 => 13 | 318 => 15 | 319 => 16 | 320 => 17 | 337 => 18 | 338 => 19 | n => n, fun | 3 => 3 | 9 => 9 | 2 => 2 | 4 => 4 | 171 => 26 | 0 => 0 | 53 => 27 | 37 => 24 | 5 => 5 | 173 => 30 | 212 => 34 | 51 => 35 | 20 => 20 | 213 => 36 | 46 => 37 | 232 => 40 | 233 => 41 | n => n, fun | 17 => 0 | 18 => 1 | 19 => 2 | n => n⟩
theorem itoaL : Go.Proofs.LaysM.n171 Tryd.prog itoaL_ren := {
  mixed := by kernel_rfl
  f129 := Tryd.func14.trans (congrArg some (by kernel_rfl))
  f171 := Tryd.func6.trans (congrArg some (by kernel_rfl))
  f243 := Tryd.func7.trans (congrArg some (by kernel_rfl))
  f246 := Tryd.func8.trans (congrArg some (by kernel_rfl))
  f283 := Tryd.func9.trans (congrArg some (by kernel_rfl))
  f284 := Tryd.func10.trans (congrArg some (by kernel_rfl))
  f285 := Tryd.func11.trans (congrArg some (by kernel_rfl))
  f286 := Tryd.func12.trans (congrArg some (by kernel_rfl))
  f317 := Tryd.func13.trans (congrArg some (by kernel_rfl))
  f318 := Tryd.func15.trans (congrArg some (by kernel_rfl))
  f319 := Tryd.func16.trans (congrArg some (by kernel_rfl))
  f320 := Tryd.func17.trans (congrArg some (by kernel_rfl))
  f337 := Tryd.func18.trans (congrArg some (by kernel_rfl))
  f338 := Tryd.func19.trans (congrArg some (by kernel_rfl))
  t0 := Tryd.underlying0
  a0 := Tryd.isAgg0
  z0 := Tryd.sizeOf0
  v0 := Tryd.zeroValue0
  t2 := Tryd.underlying2
  a2 := Tryd.isAgg2
  z2 := Tryd.sizeOf2
  v2 := Tryd.zeroValue2
  t3 := Tryd.underlying3
  a3 := Tryd.isAgg3
  z3 := Tryd.sizeOf3
  v3 := Tryd.zeroValue3
  t4 := Tryd.underlying4
  a4 := Tryd.isAgg4
  z4 := Tryd.sizeOf4
  v4 := Tryd.zeroValue4
  t5 := Tryd.underlying5
  a5 := Tryd.isAgg5
  z5 := Tryd.sizeOf5
  v5 := Tryd.zeroValue5
  t9 := Tryd.underlying9
  a9 := Tryd.isAgg9
  z9 := Tryd.sizeOf9
  v9 := Tryd.zeroValue9
  t20 := Tryd.underlying20
  a20 := Tryd.isAgg20
  z20 := Tryd.sizeOf20
  v20 := Tryd.zeroValue20
  t37 := Tryd.underlying24
  a37 := Tryd.isAgg24
  z37 := Tryd.sizeOf24
  v37 := Tryd.zeroValue24
  t46 := Tryd.underlying37
  a46 := Tryd.isAgg37
  z46 := Tryd.sizeOf37
  v46 := Tryd.zeroValue37
  t51 := Tryd.underlying35
  a51 := Tryd.isAgg35
  z51 := Tryd.sizeOf35
  v51 := Tryd.zeroValue35
  t53 := Tryd.underlying27
  a53 := Tryd.isAgg27
  z53 := Tryd.sizeOf27
  v53 := Tryd.zeroValue27
  t171 := Tryd.underlying26
  a171 := Tryd.isAgg26
  z171 := Tryd.sizeOf26
  v171 := Tryd.zeroValue26
  t173 := Tryd.underlying30
  a173 := Tryd.isAgg30
  z173 := Tryd.sizeOf30
  v173 := Tryd.zeroValue30
  t212 := Tryd.underlying34
  a212 := Tryd.isAgg34
  z212 := Tryd.sizeOf34
  v212 := Tryd.zeroValue34
  t213 := Tryd.underlying36
  a213 := Tryd.isAgg36
  z213 := Tryd.sizeOf36
  t232 := Tryd.underlying40
  a232 := Tryd.isAgg40
  z232 := Tryd.sizeOf40
  v232 := Tryd.zeroValue40
  t233 := Tryd.underlying41
  a233 := Tryd.isAgg41
  z233 := Tryd.sizeOf41
  v233 := Tryd.zeroValue41
  g17 := by kernel_rfl
  g18 := by kernel_rfl
  g19 := by kernel_rfl
  i0 := by kernel_rfl
  i2 := by kernel_rfl
  i3 := by kernel_rfl
  i4 := by kernel_rfl
  i5 := by kernel_rfl
  i9 := by kernel_rfl
  i20 := by kernel_rfl
  i37 := by kernel_rfl
  i46 := by kernel_rfl
  i51 := by kernel_rfl
  i53 := by kernel_rfl
  i171 := by kernel_rfl
  i173 := by kernel_rfl
  i212 := by kernel_rfl
  i232 := by kernel_rfl
  i233 := by kernel_rfl
  m17 := by kernel_rfl
  m18 := by kernel_rfl
  m19 := by kernel_rfl }

end
section
open Go.RowKit Go.Sort Go.Shelf
def TabOk (w : World) : Prop := Lib.TabIs Tryd.prog w "internal/strconv.uint64pow10" .u64 Lib.pow10Tab
theorem gTab : Tryd.prog.globalNamed "internal/strconv.uint64pow10" = some 0 := by kernel_rfl
theorem TabOk.ext {w w' : World} (h : TabOk w) (K : Ext w w') : TabOk w' := Go.Joins.tab_stays gTab h K.below (Nat.le_refl _)
theorem ext_grow (w : World) (k : Nat) (os : Array Obj) : Ext w (grow (w.drewN k) os) := by
  refine ⟨rfl, rfl, rfl, ?_, fun b hb _ => ?_⟩
  · simp [grow, World.drewN]
  · simp only [grow, World.drewN, Array.getElem?_append_left hb]
theorem itoa_ (n : Int) (w : World) (h0 : -9223372036854775808 ≤ n) (h1 : n ≤ 9223372036854775807) (ht : TabOk w) :
    Calls Tryd.prog 6 #[.int .i64 n] w (Ret fun v w' => v = .string ⟨(Lib.itoa n).toArray⟩ ∧ Ext w w') :=
  (Any.strconv_Itoa itoaL n h0 h1 w ht).mono fun e w' ⟨he, k, os, hw⟩ => ⟨_, he, rfl, hw ▸ ext_grow w k os⟩
end
/-! ### names -/
def logB : ByteArray := ⟨#[108, 111, 103, 46]⟩
def nameS (n : Int) : ByteArray := if 1 ≤ n ∧ n ≤ 999999999 then logB ++ ⟨(Lib.itoa n).toArray⟩ else ⟨#[]⟩
def digs (m : Nat) : List UInt8 := if m = 0 then [] else Lib.decDigits m
theorem nDigits_le : ∀ (k u : Nat), u < 10 ^ (k + 1) → Lib.nDigits u ≤ k + 1
  | 0, u, h => by rw [Lib.nDigits_small (by omega)]; omega
  | k + 1, u, h => by
    by_cases c : u < 10
    · rw [Lib.nDigits_small c]; omega
    · rw [Lib.nDigits_big c]
      have := nDigits_le k (u / 10) (by rw [Nat.pow_succ] at h; omega)
      omega
theorem dec_len : ∀ (k u : Nat), u < 10 ^ (k + 1) → (Lib.decDigits u).length ≤ k + 1
  | 0, u, h => by rw [Lib.decDigits, dif_pos (by omega)]; simp
  | k + 1, u, h => by
    rw [Lib.decDigits]
    split
    · simp
    · have := dec_len k (u / 10) (by rw [Nat.pow_succ] at h; omega)
      simp only [List.length_append, List.length_singleton]; omega
theorem itoa_len {n : Int} (h0 : 1 ≤ n) (h1 : n ≤ 999999999) : (Lib.itoa n).length ≤ 9 := by
  rw [Lib.itoa, if_neg (by omega)]
  exact dec_len 8 _ (by omega)
theorem digs_step {m : Nat} (h : 0 < m) : digs m = digs (m / 10) ++ [UInt8.ofNat (48 + m % 10)] := by
  rw [digs, if_neg (by omega), Lib.decDigits]
  by_cases c : m < 10
  · rw [dif_pos c, digs, if_pos (by omega), Nat.mod_eq_of_lt c]; rfl
  · rw [dif_neg c, digs, if_neg (by omega)]
theorem name_no {n : Int} (h : n < 1 ∨ 999999999 < n) : nameS n = ⟨#[]⟩ := if_neg (by omega)
theorem name_yes {n : Int} (h : ¬ (n < 1 ∨ 999999999 < n)) : nameS n = logB ++ ⟨(Lib.itoa n).toArray⟩ := if_pos (by omega)
theorem name_dig {n : Int} {t : ByteArray} (h : ¬ (n < 1 ∨ 999999999 < n)) (ht : digs 0 ++ t.data.toList = digs n.toNat) : nameS n = logB ++ t := by
  rw [name_yes h, Lib.itoa, if_neg (by omega)]
  congr 1
  have e : t.data.toList = Lib.decDigits n.toNat := by
    rw [digs, if_pos rfl, digs, if_neg (by omega)] at ht
    exact ht
  exact ByteArray.ext (by rw [← e])
theorem dig_next {m : Nat} {t : ByteArray} {D : List UInt8} (h : 0 < m) (ht : digs m ++ t.data.toList = D) : digs (m / 10) ++ ((⟨([UInt8.ofNat (48 + m % 10)] : List UInt8).toArray⟩ : ByteArray) ++ t).data.toList = D := by
  rw [← ht, digs_step h, List.append_assoc]
  rfl
theorem dig_len {m : Nat} {t : ByteArray} {D : List UInt8} (ht : digs m ++ t.data.toList = D) : t.size ≤ D.length := by
  have := congrArg List.length ht
  rw [List.length_append] at this
  have e : t.data.toList.length = t.size := by rw [Array.length_toList]; rfl
  omega
theorem digs_len {n : Int} (h : ¬ (n < 1 ∨ 999999999 < n)) : (digs n.toNat).length ≤ 9 := by
  rw [digs, if_neg (by omega)]; exact dec_len 8 _ (by omega)
theorem tmod_dig (m : Nat) : Int.tmod ((m : Nat) : Int) 10 = ((m % 10 : Nat) : Int) := by rw [Int.tmod_eq_emod_of_nonneg (by omega)]; omega
theorem wrap_dig (m : Nat) : IntKind.u8.wrap (48 + Int.tmod ((m : Nat) : Int) 10) = ((UInt8.ofNat (48 + m % 10)).toNat : Int) := by
  have e : Int.tmod ((m : Nat) : Int) 10 = ((m % 10 : Nat) : Int) := by rw [Int.tmod_eq_emod_of_nonneg (by omega)]; omega
  have e2 : (UInt8.ofNat (48 + m % 10)).toNat = 48 + m % 10 := by rw [UInt8.toNat_ofNat']; omega
  rw [e, e2, show (48 : Int) + ((m % 10 : Nat) : Int) = ((48 + m % 10 : Nat) : Int) by omega]
  have h : 48 + m % 10 < 256 := by omega
  have : ∀ k : Nat, k < 256 → IntKind.u8.wrap (k : Int) = (k : Int) := by decide +kernel
  exact this _ h
theorem name12 : nameS 12 = ⟨#[108, 111, 103, 46, 49, 50]⟩ := by
  have e : Lib.itoa 12 = [49, 50] := by
    rw [Lib.itoa, if_neg (by decide)]
    show Lib.decDigits 12 = _
    rw [Lib.decDigits, dif_neg (by decide), Lib.decDigits, dif_pos (by decide)]
    rfl
  rw [nameS, if_pos (by decide), e]
  rfl

theorem ty5 : Ty Tryd.prog 5 1 1 (.int .u8 (0)) false := ty_of (by kernel_rfl) (by kernel_rfl)
theorem en4 : Enters Tryd.prog 4 := enters_of Tryd.func4 rfl (by kernel_rfl)
theorem en5 : Enters Tryd.prog 5 := enters_of Tryd.func5 rfl (by kernel_rfl)
theorem en6 : Enters Tryd.prog 6 := enters_of Tryd.func6 rfl (by kernel_rfl)

set_option maxRecDepth 100000 in
set_option maxHeartbeats 4000000 in
theorem segName_ (n : Int) (w : World) (ht : TabOk w) :
    Calls Tryd.prog 4 #[.int .i64 (n)] w (Ret (fun v w' => v = .string (nameS n) ∧ Ext w w')) := by
  refine calls_run (n := 12) Tryd.func4 rfl rfl rfl ?_
  refine Run.seq ?_
  refine Run.region ?_
  refine RL.val (x_assignS rfl) ?_
  refine RL.nil ?_
  refine Run.seq ?_
  refine Run.seq ?_
  refine Run.region ?_
  refine RL.val (x_moveI rfl) ?_
  refine RL.val (x_ltI rfl rfl) ?_
  refine RL.val (x_moveB rfl) ?_
  refine RL.gval (wantedF rfl rfl rfl rfl) (fun hg => (x_moveI rfl)) ?_
  refine RL.gval (wantedF rfl rfl rfl rfl) (fun hg => (x_gtI (gvr hg) rfl)) ?_
  refine RL.val (x_or rfl rfl rfl) ?_
  refine RL.nil ?_
  refine Run.cond rfl (fun hc8 => ?_) (fun hc8 => ?_)
  · try simp only [br] at hc8
    refine Run.seq ?_
    refine Run.region ?_
    refine RL.val (x_assignS rfl) ?_
    refine RL.nil ?_
    refine Run.ret1 (v := .string (⟨#[]⟩)) Tryd.func4 rfl rfl ?_
    exact ⟨_, rfl, by rw [name_no hc8], (Keeps.refl _ w)⟩
  · try simp only [br] at hc8
    refine Run.skip ?_
    refine Run.seq ?_
    have hil := itoa_len (n := n) (by omega) (by omega)
    have hls : (⟨#[108, 111, 103, 46]⟩ : ByteArray).size = 4 := rfl
    have his : (⟨(Lib.itoa n).toArray⟩ : ByteArray).size = (Lib.itoa n).length := rfl
    refine Run.region ?_
    refine RL.val (x_moveI rfl) ?_
    refine RL.st rfl <| St1.call (vals := [.int .i64 (n)]) en6 rfl (itoa_ n _ (by omega) (by omega) ht) ?_
    rintro _ w_1 ⟨rfl, K_2⟩
    have K0 := (K_2 : Ext w _)
    refine RL.val (x_addS rfl rfl (by omega)) ?_
    refine RL.val (x_assignS rfl) ?_
    refine RL.nil ?_
    refine Run.ret1 (v := .string (⟨#[108, 111, 103, 46]⟩ ++ (⟨(Lib.itoa n).toArray⟩ : ByteArray))) Tryd.func4 rfl rfl ?_
    exact ⟨_, rfl, by rw [name_yes (by omega)]; rfl, K0⟩

set_option maxRecDepth 100000 in
set_option maxHeartbeats 4000000 in
theorem refName_ (n : Int) (w : World) :
    Calls Tryd.prog 5 #[.int .i64 (n)] w (Ret (fun v w' => v = .string (nameS n) ∧ Ext w w')) := by
  refine calls_run (n := 24) Tryd.func5 rfl rfl rfl ?_
  refine Run.seq ?_
  refine Run.region ?_
  refine RL.val (x_assignS rfl) ?_
  refine RL.nil ?_
  refine Run.seq ?_
  refine Run.seq ?_
  refine Run.region ?_
  refine RL.val (x_moveI rfl) ?_
  refine RL.val (x_ltI rfl rfl) ?_
  refine RL.val (x_moveB rfl) ?_
  refine RL.gval (wantedF rfl rfl rfl rfl) (fun hg => (x_moveI rfl)) ?_
  refine RL.gval (wantedF rfl rfl rfl rfl) (fun hg => (x_gtI (gvr hg) rfl)) ?_
  refine RL.val (x_or rfl rfl rfl) ?_
  refine RL.nil ?_
  refine Run.cond rfl (fun hc9 => ?_) (fun hc9 => ?_)
  · try simp only [br] at hc9
    refine Run.seq ?_
    refine Run.region ?_
    refine RL.val (x_assignS rfl) ?_
    refine RL.nil ?_
    refine Run.ret1 (v := .string (⟨#[]⟩)) Tryd.func5 rfl rfl ?_
    exact ⟨_, rfl, by rw [name_no hc9], (Keeps.refl _ w)⟩
  · try simp only [br] at hc9
    refine Run.skip ?_
    refine Run.seq ?_
    refine Run.region ?_
    refine RL.val (x_assignS rfl) ?_
    refine RL.nil ?_
    refine Run.seq ?_
    refine Run.block ?_
    refine Run.loop (ι := Nat) (fun m ρ' w' => ∃ t : ByteArray, Holds ρ' [(0, .int .i64 (((m : Nat) : Int))), (3, .string (t))] ∧ Ext w w' ∧ (digs m ++ t.data.toList = digs n.toNat) ∧ (m ≤ 999999999)) (fun m => m) n.toNat ?_ ?_
    · rw [Int.toNat_of_nonneg (show 0 ≤ n by omega)]
      refine ⟨⟨#[]⟩, ⟨rfl, rfl, trivial⟩, (Keeps.refl _ w), ?_, ?_⟩
      · exact List.append_nil _
      · omega
    rintro m ρ_3 w_1 ⟨t, hH_2, K0, hD, hm⟩ ih1
    obtain ⟨ρ₀, rfl⟩ := hH_2.ex
    clear hH_2
    refine Run.seq ?_
    refine Run.seq ?_
    refine Run.region ?_
    refine RL.val (x_moveI rfl) ?_
    refine RL.val (x_gtI rfl rfl) ?_
    refine RL.nil ?_
    refine Run.cond rfl (fun hc11 => ?_) (fun hc11 => ?_)
    · try simp only [br] at hc11
      refine Run.skip ?_
      refine Run.block ?_
      refine Run.seq ?_
      have htl := dig_len hD
      have hdl := digs_len (n := n) (by omega)
      have htm := tmod_dig m
      have h1s : (⟨([UInt8.ofNat (48 + m % 10)] : List UInt8).toArray⟩ : ByteArray).size = 1 := rfl
      refine Run.region ?_
      refine RL.val (x_moveI rfl) ?_
      refine RL.val (x_rem rfl rfl (by decide)) ?_
      refine RL.val (x_add rfl rfl (by omega) (by omega)) ?_
      refine RL.val (litI (c := ((UInt8.ofNat (48 + m % 10)).toNat : Int)) (x_convI rfl ⟨_, Tryd.underlying3⟩ Tryd.underlying5) (wrap_dig m)) ?_
      refine RL.st rfl <| St1.buildSlice ([UInt8.ofNat (48 + m % 10)] : List UInt8) Tryd.underlying24 ty5 rfl rfl (by first | decide | (simp [Enc.size])) ?_
      intro b_4 w_5 hl_8 ho_7 K_6
      have pg_9 : ∀ q_, own (some ⟨b_4, 0, none⟩) q_ → w.heap.size ≤ q_ := fun q_ h => Nat.le_trans K0.size ((ge_new hl_8) q_ h)
      clear hl_8
      replace K0 := K0.ext K_6
      refine RL.val (x_strOf Tryd.underlying24 Tryd.underlying5 Tryd.underlying9 rfl ho_7.sl) ?_
      refine RL.val (x_moveS rfl) ?_
      refine RL.val (x_addS rfl rfl (by omega)) ?_
      refine RL.val (x_assignS rfl) ?_
      refine RL.nil ?_
      refine Run.region ?_
      refine RL.val (x_moveI rfl) ?_
      refine RL.val (x_quo rfl rfl (by decide)) ?_
      refine RL.val (x_assignI rfl) ?_
      refine RL.nil ?_
      refine Run.inBlock ?_
      have e0 : ((m / 10 : Nat) : Int) = Int.tdiv ((m : Nat) : Int) 10 := by rw [Int.tdiv_eq_ediv_of_nonneg (by omega)]; omega
      have e : ((m / 10 : Nat) : Int) = IntKind.i64.wrap (Int.tdiv ((m : Nat) : Int) 10) := by rw [← e0, wrap64 _ (by omega) (by omega)]
      refine ih1 (m / 10) _ _ ?_ (by omega)
      rw [e]
      refine ⟨((⟨(([UInt8.ofNat (48 + m % 10)] : List UInt8)).toArray⟩ : ByteArray) ++ t), ⟨rfl, rfl, trivial⟩, K0, ?_, ?_⟩
      · exact dig_next (by omega) hD
      · omega
    · try simp only [br] at hc11
      refine Run.exit rfl ?_
      refine Run.seq ?_
      have hls : (⟨#[108, 111, 103, 46]⟩ : ByteArray).size = 4 := rfl
      have htl := dig_len hD
      have hdl := digs_len (n := n) (by omega)
      refine Run.region ?_
      refine RL.val (x_moveS rfl) ?_
      refine RL.val (x_addS rfl rfl (by omega)) ?_
      refine RL.val (x_assignS rfl) ?_
      refine RL.nil ?_
      refine Run.ret1 (v := .string (⟨#[108, 111, 103, 46]⟩ ++ t)) Tryd.func5 rfl rfl ?_
      exact ⟨_, rfl, by
        have hm0 : m = 0 := by omega
        subst hm0
        rw [name_dig (by omega) hD]; rfl, K0⟩

set_option maxRecDepth 100000 in
set_option maxHeartbeats 4000000 in
theorem law_names (n : Int) (w : World) (ht : TabOk w) :
    Calls Tryd.prog 3 #[.int .i64 (n)] w (Ret (fun v w' => v = .bool true ∧ Ext w w')) := by
  refine calls_run (n := 12) Tryd.func3 rfl rfl rfl ?_
  refine Run.seq ?_
  refine Run.region ?_
  refine RL.val (x_assignB rfl) ?_
  refine RL.nil ?_
  refine Run.seq ?_
  refine Run.region ?_
  refine RL.val (x_moveI rfl) ?_
  refine RL.st rfl <| St1.call (vals := [.int .i64 (n)]) en4 rfl (segName_ n _ ht) ?_
  rintro _ w_1 ⟨rfl, K_2⟩
  have K0 := (K_2 : Ext w _)
  refine RL.val (x_moveI rfl) ?_
  refine RL.st rfl <| St1.call (vals := [.int .i64 (n)]) en5 rfl (refName_ n _) ?_
  rintro _ w_3 ⟨rfl, K_4⟩
  replace K0 := K0.ext K_4
  refine RL.val (litT (x_eqS rfl rfl) (by simp)) ?_
  refine RL.val (x_moveB rfl) ?_
  refine RL.gst (wantedT1 rfl rfl rfl rfl) <| St1.call (vals := [.int .i64 (12)]) en4 rfl (segName_ 12 _ (ht.ext K0)) ?_
  rintro _ w_5 ⟨rfl, K_6⟩
  replace K0 := K0.ext K_6
  refine RL.gst (wantedT1 rfl rfl rfl rfl) <| St1.val (litT (x_eqS rfl rfl) (by rw [name12]; rfl)) ?_
  refine RL.val (x_andT rfl rfl rfl) ?_
  refine RL.val (x_assignB rfl) ?_
  refine RL.nil ?_
  refine Run.ret1 (v := .bool (true)) Tryd.func3 rfl rfl ?_
  exact ⟨_, rfl, rfl, K0⟩

end Go.Proofs.YtaaolobdclifpaaDoor
