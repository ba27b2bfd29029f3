/-
  Za, Zb, Zc
-/
import Derived.Test.YtlhepanmdchjoaaGreatDoorRows
import Derived.Test.YtlhepanmdchjoaaGreatDoorPkYg
import Derived.Test.YtlhepanmdchjoaaGreatDoorPkDq
/-
  Layer 7's reference: Name, number.
-/
namespace Go.Proofs.YtlhepanmdchjoaaGreatDoor
attribute [local irreducible] St1 RL RA RT RT1 Run
attribute [local irreducible] segsL
/-! ### the number of a file, by its letters -/
def preB : List UInt8 := [108, 111, 103, 46]
theorem dec_head : ∀ (u : Nat), 0 < u → ∀ c, (Lib.decDigits u)[0]? = some c → c.toNat ≠ 48 := fun u => by
 induction u using Nat.strongRecOn with
 | _ u ih =>
  intro h0 x hx; rw [Lib.decDigits] at hx; by_cases c : u < 10
  ·rw [dif_pos c] at hx
   simp only [List.getElem?_cons_zero, Option.some.injEq] at hx; subst hx; rw [dig_toNat u c]; omega
  ·rw [dif_neg c] at hx
   have hl : 0 < (Lib.decDigits (u / 10)).length := List.length_pos_iff.2 (dec_ne _); rw [List.getElem?_append_left hl] at hx; exact ih (u / 10) (by omega) (by omega) x hx
theorem log_list : logB.data.toList = preB := rfl
theorem seg_shape {s : ByteArray} (h : segN s ≠ 0) : ∃ D, s.data.toList = preB ++ D ∧ D ≠ [] ∧ D.length ≤ 9 ∧ (∀ c ∈ D, isDig c) ∧ (∀ c, D[0]? = some c → c.toNat ≠ 48) := by
 obtain ⟨h1, h2, h3⟩ := segN_pos h; refine ⟨Lib.decDigits (segN s), ?_, dec_ne _, dec_len 8 _ (by omega), dec_dig _, dec_head _ (by omega)⟩; have e := nameS_list h1 h2; rw [h3] at e; exact e
theorem seg_val {s : ByteArray} {D : List UInt8} (h : s.data.toList = preB ++ D) (h1 : D ≠ []) (h2 : D.length ≤ 9) (h3 : ∀ c ∈ D, isDig c) (h4 : ∀ c, D[0]? = some c → c.toNat ≠ 48) : segN s = valD D := by
 obtain ⟨e1, e2⟩ := dec_val D h3 h1 h4; have h5 := valD_lt D h3; have h6 : 10 ^ D.length ≤ 10 ^ 9 := Nat.pow_le_pow_right (by decide) h2; have h7 : (10 : Nat) ^ 9 = 1000000000 := rfl; have : s = nameS (valD D : Int) := ba_ext (by rw [nameS_list (by omega) (by omega), h, e1]; rfl); rw [this]; exact segN_name (by omega) (by omega)
section
variable {s : ByteArray} {i n : Nat} {c : UInt8}
theorem ba_len (s : ByteArray) : s.data.toList.length = s.size := by rw [Array.length_toList]; rfl
theorem num_len (h : s.size < 5 ∨ 13 < s.size) : segN s = 0 := Classical.byContradiction fun h0 => by
 obtain ⟨D, e, h1, h2, _⟩ := seg_shape h0; have := congrArg List.length e; rw [ba_len, List.length_append] at this; have : 0 < D.length := List.length_pos_iff.2 h1; have : preB.length = 4 := rfl; omega
theorem num_pre (h : s.extract 0 4 ≠ logB) : segN s = 0 := Classical.byContradiction fun h0 => by
 obtain ⟨D, e, _⟩ := seg_shape h0; refine h (ba_ext ?_); rw [ext_list, e]; rfl
theorem pre_list (h4 : 4 ≤ s.size) (h : s.extract 0 4 = logB) : s.data.toList = preB ++ s.data.toList.drop 4 := by
 have e := congrArg (fun b => b.data.toList) h; simp only [ext_list, log_list] at e; rw [← e]; simp
theorem num_zero (h : s.data.toList[4]? = some c) (hc : c.toNat = 48) : segN s = 0 := Classical.byContradiction fun h0 => by
 obtain ⟨D, e, _, _, _, h5⟩ := seg_shape h0; rw [e, List.getElem?_append_right (by decide)] at h; exact h5 c h hc
theorem num_bad (hi : 4 ≤ i) (h : s.data.toList[i]? = some c) (hc : c.toNat < 48 ∨ 57 < c.toNat) : segN s = 0 := Classical.byContradiction fun h0 => by
 obtain ⟨D, e, _, _, h4, _⟩ := seg_shape h0; rw [e, List.getElem?_append_right hi] at h; have := h4 c (List.mem_of_getElem? h); rw [isDig] at this; omega
theorem dig_sub {c : UInt8} (h1 : 48 ≤ c.toNat) (h2 : c.toNat ≤ 57) : IntKind.i64.wrap (IntKind.u8.wrap ((c.toNat : Int) - 48)) = ((c.toNat - 48 : Nat) : Int) := by
 have hw : IntKind.u8.wrap ((c.toNat : Int) - 48) = ((c.toNat : Int) - 48) % 256 := by simp [IntKind.wrap, IntKind.bits, IntKind.signed]
 rw [hw, wrap64 _ (by omega) (by omega)]; omega
/-- the letters that were looked at are digits, n what they tell -/
structure NumAt (s : ByteArray) (i n : Nat) : Prop where
  lo : 4 ≤ i
  dig : ∀ c ∈ (s.data.toList.drop 4).take (i - 4), isDig c
  val : n = valD ((s.data.toList.drop 4).take (i - 4))
theorem NumAt.zero : NumAt s 4 0 := ⟨Nat.le_refl _, fun c h => absurd h (by simp), rfl⟩
theorem NumAt.lt (h : NumAt s i n) (hs : i ≤ 13) : n < 1000000000 := by
 have h5 := valD_lt _ h.dig; have h6 : 10 ^ ((s.data.toList.drop 4).take (i - 4)).length ≤ 10 ^ 9 := Nat.pow_le_pow_right (by decide) (by rw [List.length_take]; omega); have h7 : (10 : Nat) ^ 9 = 1000000000 := rfl; rw [h.val]; omega
theorem NumAt.step (h : NumAt s i n) (hc : s.data.toList[i]? = some c) (h1 : 48 ≤ c.toNat) (h2 : c.toNat ≤ 57) : NumAt s (i + 1) (n * 10 + (c.toNat - 48)) := by
 have hlo := h.lo
 have e : (s.data.toList.drop 4).take (i + 1 - 4) = (s.data.toList.drop 4).take (i - 4) ++ [c] := by
  rw [show i + 1 - 4 = (i - 4) + 1 by omega]; refine take_snoc ?_; rw [List.getElem?_drop, show 4 + (i - 4) = i by omega, hc]
 refine ⟨by omega, fun x hx => ?_, ?_⟩
 ·rw [e] at hx
  rcases List.mem_append.1 hx with hx | hx
  ·exact h.dig x hx
  ·simp only [List.mem_singleton] at hx; subst hx; exact ⟨h1, h2⟩
 ·rw [e, valD_snoc, ← h.val]
theorem NumAt.done (h : NumAt s i n) (hi : i = s.size) (h5 : 5 ≤ s.size) (h13 : s.size ≤ 13) (hp : s.extract 0 4 = logB) {c4 : UInt8} (h4 : s.data.toList[4]? = some c4) (hc : c4.toNat ≠ 48) : segN s = n := by
 have hl := ba_len s; have e : (s.data.toList.drop 4).take (i - 4) = s.data.toList.drop 4 := List.take_of_length_le (by rw [List.length_drop]; omega); have hd := h.dig; rw [e] at hd; rw [h.val, e]; refine seg_val (pre_list (by omega) hp) (fun e0 => ?_) (by rw [List.length_drop]; omega) hd fun c hc2 => ?_
 ·have := congrArg List.length e0
  rw [List.length_drop, List.length_nil] at this; omega
 ·rw [List.getElem?_drop, h4] at hc2
  cases hc2
  exact hc
end
/-! ### numbers put in order, one by one -/
def insI (n : Int) : List Int → List Int
  | [] => [n]
  | x :: r => if n < x then n :: x :: r else x :: insI n r
theorem insI_perm (n : Int) : ∀ l, (insI n l).Perm (n :: l)
 | [] => List.Perm.refl _
 | x :: r => by
  rw [insI]
  split
  ·exact List.Perm.refl _
  ·exact ((insI_perm n r).cons x).trans (List.Perm.swap ..)
theorem insI_sorted {n : Int} : ∀ {l}, l.Pairwise (· ≤ ·) → (insI n l).Pairwise (· ≤ ·)
  | [], _ => by simp [insI]
  | x :: r, h => by
    obtain ⟨h1, h2⟩ := List.pairwise_cons.1 h; rw [insI]
    split
    · rename_i hc
      refine List.pairwise_cons.2 ⟨fun y hy => ?_, h⟩; rcases List.mem_cons.1 hy with rfl | hy
      · omega
      · have := h1 y hy; omega
    · rename_i hc
      refine List.pairwise_cons.2 ⟨fun y hy => ?_, insI_sorted h2⟩; rcases List.mem_cons.1 ((insI_perm n r).mem_iff.1 hy) with rfl | hy
      · omega
      · exact h1 y hy
def insAll (l : List Int) : List Int := l.foldl (fun acc n => insI n acc) []
theorem insAll_snoc (l : List Int) (n : Int) : insAll (l ++ [n]) = insI n (insAll l) := by rw [insAll, List.foldl_append]; rfl
theorem insFold : ∀ (l acc : List Int), acc.Pairwise (· ≤ ·) → (l.foldl (fun acc n => insI n acc) acc).Perm (acc ++ l) ∧ (l.foldl (fun acc n => insI n acc) acc).Pairwise (· ≤ ·)
  | [], acc, h => ⟨by simp, h⟩
  | n :: l, acc, h => by
    obtain ⟨h1, h2⟩ := insFold l (insI n acc) (insI_sorted h); refine ⟨h1.trans ?_, h2⟩; refine ((insI_perm n acc).append_right l).trans ?_; exact List.perm_middle.symm
theorem insAll_sort (l : List Int) : insAll l = sortZ l := by
 obtain ⟨h1, h2⟩ := insFold l [] List.Pairwise.nil; exact sorted_unique (h1.trans ((List.nil_append l).symm ▸ (sortZ_perm l).symm)) h2 (sortZ_sorted l)
theorem insAll_len (l : List Int) : (insAll l).length = l.length := by
 have := (insFold l [] List.Pairwise.nil).1.length_eq; rw [insAll]
 simpa using this
/-- what stands there while a number is put in: put: it was put already -/
theorem ins_go {n : Int} : ∀ {l : List Int} {j : Nat} {x : Int}, l[j]? = some x → (∀ y ∈ l.take j, ¬ n < y) → (n < x → insI n l = l.take j ++ n :: l.drop j)
 | [], j, x, h, _, _ => by simp at h
 | y :: l, 0, x, h, _, hn => by
  simp at h; subst h; rw [insI, if_pos hn]; rfl
 | y :: l, j + 1, x, h, hy, hn => by
  rw [insI, if_neg (hy y (by simp)), ins_go (l := l) (j := j) (by simpa using h) (fun z hz => hy z (by simp [hz])) hn]; rfl
theorem ins_end {n : Int} : ∀ {l : List Int}, (∀ y ∈ l, ¬ n < y) → insI n l = l ++ [n]
 | [], _ => rfl
 | y :: l, hy => by rw [insI, if_neg (hy y (by simp)), ins_end fun z hz => hy z (by simp [hz])]; rfl
/-- what the walk has built -/
structure InsAt (n : Int) (l : List Int) (j : Nat) (put : Bool) (out : List Int) : Prop where
  no : put = false → out = l.take j ∧ ∀ y ∈ l.take j, ¬ n < y
  yes : put = true → insI n l = out ++ l.drop j
theorem InsAt.zero {n : Int} {l : List Int} : InsAt n l 0 false [] := ⟨fun _ => ⟨rfl, fun y h => absurd h (by simp)⟩, fun h => by cases h⟩
theorem InsAt.put_ {n : Int} {l out : List Int} {j : Nat} {x : Int} (h : InsAt n l j false out) (hx : l[j]? = some x) (hn : n < x) : InsAt n l (j + 1) true (out ++ [n] ++ [x]) := by
 obtain ⟨rfl, h2⟩ := h.no rfl; refine ⟨fun h => (by cases h), fun _ => ?_⟩; rw [ins_go hx h2 hn, drop_cons hx]; simp
theorem InsAt.skip {n : Int} {l out : List Int} {j : Nat} {x : Int} (h : InsAt n l j false out) (hx : l[j]? = some x) (hn : ¬ n < x) : InsAt n l (j + 1) false (out ++ [x]) := by
 obtain ⟨rfl, h2⟩ := h.no rfl; refine ⟨fun _ => ⟨(take_snoc hx).symm, fun y hy => ?_⟩, fun h => by cases h⟩; rw [take_snoc hx] at hy; rcases List.mem_append.1 hy with hy | hy
 ·exact h2 y hy
 ·simp only [List.mem_singleton] at hy; subst hy; exact hn
theorem InsAt.keep {n : Int} {l out : List Int} {j : Nat} {x : Int} (h : InsAt n l j true out) (hx : l[j]? = some x) : InsAt n l (j + 1) true (out ++ [x]) := by
 refine ⟨fun h => (by cases h), fun _ => ?_⟩; rw [h.yes rfl, drop_cons hx]; simp
theorem InsAt.end_yes {n : Int} {l out : List Int} {j : Nat} (h : InsAt n l j true out) (hj : l.length ≤ j) : insI n l = out := by
 rw [h.yes rfl, List.drop_eq_nil_of_le hj, List.append_nil]
theorem InsAt.end_no {n : Int} {l out : List Int} {j : Nat} (h : InsAt n l j false out) (hj : l.length ≤ j) : insI n l = out ++ [n] := by
 obtain ⟨h1, h2⟩ := h.no rfl; rw [List.take_of_length_le hj] at h1 h2; rw [h1, ins_end h2]
theorem InsAt.ends {n : Int} {l out : List Int} {j : Nat} {p : Bool} (h : InsAt n l j p out) (hj : l.length ≤ j) : (p = true → insI n l = out) ∧ (p = false → insI n l = out ++ [n]) :=
 ⟨fun e => by subst e; exact h.end_yes hj, fun e => by subst e; exact h.end_no hj⟩
theorem InsAt.len {n : Int} {l out : List Int} {j : Nat} {p : Bool} (h : InsAt n l j p out) : out.length ≤ l.length + 1 := by
 cases p with
 | false => rw [(h.no rfl).1, List.length_take]; omega
 | true =>
  have := congrArg List.length (h.yes rfl); rw [(insI_perm n l).length_eq, List.length_append, List.length_cons] at this; omega
theorem segI_snoc0 {ns : List ByteArray} {i : Nat} {s : ByteArray} (h : ns[i]? = some s) (h2 : segN s = 0) : segI (ns.take (i + 1)) = segI (ns.take i) := segI_no h (by rw [segO, if_pos h2])
theorem segI_snoc1 {ns : List ByteArray} {i : Nat} {s : ByteArray} (h : ns[i]? = some s) (h2 : segN s ≠ 0) : insAll (segI (ns.take (i + 1))) = insI ((segN s : Nat) : Int) (insAll (segI (ns.take i))) := by
 rw [segI_yes h (by rw [segO, if_neg h2] : segO s = some ((segN s : Nat) : Int)), insAll_snoc]
attribute [local irreducible] segN nameS insI insAll
structure RLogC where
  D : Option Addr
set_option maxRecDepth 100000 in
set_option maxHeartbeats 4000000 in
theorem refName_ (n : Int) (w : World) :
  Calls Tryz.prog 67 #[.int .i64 (n)] w (Ret (fun v w' => v = .string (nameS n) ∧ Ext w w')) := by
 refine calls_run (n := 24) Tryz.func67 rfl rfl rfl <| Run.seq <| Run.region <| RL.val (x_assignS rfl) <| RL.nil <| Run.seq <| Run.seq <| Run.region ?_; refine RL.val (x_moveI rfl) <| RL.val (x_ltI rfl rfl) <| RL.val (x_moveB rfl) <| RL.gval (wantedF rfl rfl rfl rfl) (fun hg => (x_moveI rfl)) <| RL.gval (wantedF rfl rfl rfl rfl) (fun hg => (x_gtI (gvr hg) rfl)) <| RL.val (x_or rfl rfl rfl) <| RL.nil ?_; refine Run.cond rfl (fun hc9 => ?_) (fun hc9 => ?_)
 ·try simp only [br] at hc9
  refine Run.seq <| Run.region <| RL.val (x_assignS rfl) <| RL.nil <| Run.ret1 (v := .string (⟨#[]⟩)) Tryz.func67 rfl rfl ?_; exact ⟨_, rfl, by rw [name_no hc9], (Keeps.refl _ w)⟩
 ·try simp only [br] at hc9
  refine Run.skip <| Run.seq <| Run.region <| RL.val (x_assignS rfl) <| RL.nil <| Run.seq <| Run.block ?_; refine Run.loop (ι := Nat) (fun m ρ' w' => ∃ t : ByteArray, Holds ρ' [(0, .int .i64 (((m : Nat) : Int))), (3, .string (t))] ∧ Ext w w' ∧ (digs m ++ t.data.toList = digs n.toNat) ∧ (m ≤ 999999999)) (fun m => m) n.toNat ?_ ?_
  ·rw [Int.toNat_of_nonneg (show 0 ≤ n by omega)]
   refine ⟨⟨#[]⟩, ⟨rfl, rfl, trivial⟩, (Keeps.refl _ w), ?_, ?_⟩
   ·exact List.append_nil _
   ·omega
  rintro m ρ_3 w_1 ⟨t, hH_2, K0, hD, hm⟩ ih1; obtain ⟨ρ₀, rfl⟩ := hH_2.ex; clear hH_2; refine Run.seq <| Run.seq <| Run.region <| RL.val (x_moveI rfl) <| RL.val (x_gtI rfl rfl) <| RL.nil ?_; refine Run.cond rfl (fun hc11 => ?_) (fun hc11 => ?_)
  ·try simp only [br] at hc11
   refine Run.skip <| Run.block <| Run.seq ?_; have htl := dig_len hD; have hdl := digs_len (n := n) (by omega); have htm := tmod_dig m; have h1s : (⟨([UInt8.ofNat (48 + m % 10)] : List UInt8).toArray⟩ : ByteArray).size = 1 := rfl; refine Run.region <| RL.val (x_moveI rfl) <| RL.val (litI (c := ((m % 10 : Nat) : Int)) (x_rem rfl rfl (by decide)) (tmodN m 10)) <| RL.val (litI (c := ((48 + (m % 10) : Nat) : Int)) (x_add rfl rfl (by omega) (by omega)) rfl) <| RL.val (litI (c := ((UInt8.ofNat (48 + m % 10)).toNat : Int)) (x_convB (a := 48 + (m % 10)) rfl ⟨_, Tryz.underlying3⟩ Tryz.underlying5) (wrap_dig m)) <| RL.st rfl <| St1.buildSlice ([UInt8.ofNat (48 + m % 10)] : List UInt8) Tryz.underlying32 ty5 rfl rfl (by first | decide | (simp [Enc.size])) ?_; intro b_4 w_5 hl_8 ho_7 K_6; clear hl_8; replace K0 := K0.ext K_6; refine RL.val (x_strOf Tryz.underlying32 Tryz.underlying5 Tryz.underlying9 rfl ho_7.sl) <| RL.val (x_moveS rfl) <| RL.val (x_addS rfl rfl (by omega)) <| RL.val (x_assignS rfl) <| RL.nil <| Run.region <| RL.val (x_moveI rfl) <| RL.val (litI (c := ((m / 10 : Nat) : Int)) (x_quo rfl rfl (by decide)) (tdivN .i64 m 10 (show m < 9223372036854775808 by omega))) ?_; refine RL.val (x_assignI rfl) <| RL.nil <| Run.inBlock ?_; have e0 : ((m / 10 : Nat) : Int) = Int.tdiv ((m : Nat) : Int) 10 := by rw [Int.tdiv_eq_ediv_of_nonneg (by omega)]; omega
   have e : ((m / 10 : Nat) : Int) = IntKind.i64.wrap (Int.tdiv ((m : Nat) : Int) 10) := by rw [← e0, wrap64 _ (by omega) (by omega)]
   refine ih1 (m / 10) _ _ ?_ (by omega); rw [e]; refine ⟨((⟨(([UInt8.ofNat (48 + m % 10)] : List UInt8)).toArray⟩ : ByteArray) ++ t), ⟨rfl, rfl, trivial⟩, K0, ?_, ?_⟩
   ·exact dig_next (by omega) hD
   ·omega
  ·try simp only [br] at hc11
   refine Run.exit rfl <| Run.seq ?_; have hls : (⟨#[108, 111, 103, 46]⟩ : ByteArray).size = 4 := rfl; have htl := dig_len hD; have hdl := digs_len (n := n) (by omega); refine Run.region <| RL.val (x_moveS rfl) <| RL.val (x_addS rfl rfl (by omega)) <| RL.val (x_assignS rfl) <| RL.nil <| Run.ret1 (v := .string (⟨#[108, 111, 103, 46]⟩ ++ t)) Tryz.func67 rfl rfl ?_
   exact ⟨_, rfl, by
    have hm0 : m = 0 := by omega
    subst hm0; rw [name_dig (by omega) hD]; rfl, K0⟩
set_option maxRecDepth 100000 in
set_option maxHeartbeats 4000000 in
theorem refNum_ (s : ByteArray) (w : World) (hs : s.size ≤ 4294967295) :
  Calls Tryz.prog 76 #[.string (s)] w (Ret (fun v w' => v = .int .i64 ((segN s : Nat) : Int) ∧ Ext w w')) := by
 have hbl := ba_len s; refine calls_run (n := 48) Tryz.func76 rfl rfl rfl <| Run.seq ?_; by_cases hA : s.size < 5 ∨ 13 < s.size
 ·refine Run.region ?_
  refine RL.val (x_assignI rfl) <| RL.nil ?_
  skip
  refine Run.seq <| Run.seq ?_; by_cases hB : s.extract 0 4 = logB
  ·refine Run.region ?_
   refine RL.val (x_moveS rfl) <| RL.val (x_lenStr Tryz.underlying9 rfl) <| RL.val (x_ltI rfl rfl) <| RL.val (x_moveB rfl) <| RL.gval (wantedF rfl rfl rfl rfl) (fun hg => (x_moveS rfl)) <| RL.gval (wantedF rfl rfl rfl rfl) (fun hg => (x_lenStr Tryz.underlying9 (gvr hg))) <| RL.gval (wantedF rfl rfl rfl rfl) (fun hg => (x_gtI (gvr hg) rfl)) <| RL.val (litT (x_or rfl rfl rfl) (by simp only [decide_eq_true_eq, Bool.or_eq_true]; omega)) ?_; refine RL.val (x_moveB rfl) <| RL.guardF (wantedF0 rfl rfl rfl rfl) <| RL.guardF (wantedF0 rfl rfl rfl rfl) <| RL.guardF (wantedF0 rfl rfl rfl rfl) <| RL.val (x_or (b := true) (e := false) rfl rfl rfl) <| RL.val (x_moveB rfl) <| RL.guardF (wantedF0 rfl rfl rfl rfl) <| RL.guardF (wantedF0 rfl rfl rfl rfl) ?_; refine RL.guardF (wantedF0 rfl rfl rfl rfl) <| RL.val (x_or (b := true) (e := false) rfl rfl rfl) <| RL.nil <| Run.condT rfl <| Run.seq <| Run.region <| RL.val (x_assignI rfl) <| RL.nil ?_; refine Run.ret1 (v := .int .i64 (0)) Tryz.func76 rfl rfl ?_; have hz := num_len (s := s) (by omega); exact ⟨_, rfl, by rw [hz]; rfl, (Keeps.refl _ w)⟩
  ·refine Run.region ?_
   refine RL.val (x_moveS rfl) <| RL.val (x_lenStr Tryz.underlying9 rfl) <| RL.val (x_ltI rfl rfl) <| RL.val (x_moveB rfl) <| RL.gval (wantedF rfl rfl rfl rfl) (fun hg => (x_moveS rfl)) <| RL.gval (wantedF rfl rfl rfl rfl) (fun hg => (x_lenStr Tryz.underlying9 (gvr hg))) <| RL.gval (wantedF rfl rfl rfl rfl) (fun hg => (x_gtI (gvr hg) rfl)) <| RL.val (litT (x_or rfl rfl rfl) (by simp only [decide_eq_true_eq, Bool.or_eq_true]; omega)) ?_; refine RL.val (x_moveB rfl) <| RL.guardF (wantedF0 rfl rfl rfl rfl) <| RL.guardF (wantedF0 rfl rfl rfl rfl) <| RL.guardF (wantedF0 rfl rfl rfl rfl) <| RL.val (x_or (b := true) (e := false) rfl rfl rfl) <| RL.val (x_moveB rfl) <| RL.guardF (wantedF0 rfl rfl rfl rfl) <| RL.guardF (wantedF0 rfl rfl rfl rfl) ?_; refine RL.guardF (wantedF0 rfl rfl rfl rfl) <| RL.val (x_or (b := true) (e := false) rfl rfl rfl) <| RL.nil <| Run.condT rfl <| Run.seq <| Run.region <| RL.val (x_assignI rfl) <| RL.nil ?_; refine Run.ret1 (v := .int .i64 (0)) Tryz.func76 rfl rfl ?_; have hz := num_len (s := s) (by omega); exact ⟨_, rfl, by rw [hz]; rfl, (Keeps.refl _ w)⟩
 ·refine Run.region ?_
  refine RL.val (x_assignI rfl) <| RL.nil ?_; obtain ⟨c4, h4⟩ : ∃ c, s.data.toList[4]? = some c := ⟨_, List.getElem?_eq_getElem (by omega)⟩; refine Run.seq <| Run.seq ?_; by_cases hB : s.extract 0 4 = logB
  ·refine Run.region ?_
   refine RL.val (x_moveS rfl) <| RL.val (x_lenStr Tryz.underlying9 rfl) <| RL.val (litF (x_ltI rfl rfl) (by simp only [decide_eq_false_iff_not]; omega)) <| RL.val (x_moveB rfl) <| RL.gst (wantedF1 rfl rfl rfl rfl) <| St1.val (x_moveS rfl) <| RL.gst (wantedF1 rfl rfl rfl rfl) <| St1.val (x_lenStr Tryz.underlying9 rfl) <| RL.gst (wantedF1 rfl rfl rfl rfl) <| St1.val (litF (x_gtI rfl rfl) (by simp only [decide_eq_false_iff_not]; omega)) <| RL.val (x_orF rfl rfl rfl) ?_; refine RL.val (x_moveB rfl) <| RL.gst (wantedF1 rfl rfl rfl rfl) <| St1.val (x_moveS rfl) <| RL.gst (wantedF1 rfl rfl rfl rfl) <| St1.val (x_slStrTo (j := 4) Tryz.underlying9 rfl rfl (by omega)) <| RL.gst (wantedF1 rfl rfl rfl rfl) <| St1.val (litF (x_neS rfl rfl) (by simpa [logB] using hB)) <| RL.val (x_orF rfl rfl rfl) <| RL.val (x_moveB rfl) <| RL.gst (wantedF1 rfl rfl rfl rfl) <| St1.val (x_moveS rfl) <| RL.gst (wantedF1 rfl rfl rfl rfl) <| St1.val (x_idxStrN (i := 4) (c := c4) Tryz.underlying9 rfl rfl h4) ?_; refine RL.gst (wantedF1 rfl rfl rfl rfl) <| St1.val (x_eqI rfl rfl) <| RL.val (x_orF rfl rfl rfl) <| RL.nil ?_; refine Run.cond rfl (fun hc22 => ?_) (fun hc22 => ?_)
   ·try simp only [br] at hc22
    refine Run.seq <| Run.region <| RL.val (x_assignI rfl) <| RL.nil <| Run.ret1 (v := .int .i64 (0)) Tryz.func76 rfl rfl ?_; have hz := num_zero h4 (by omega); exact ⟨_, rfl, by rw [hz]; rfl, (Keeps.refl _ w)⟩
   ·try simp only [br] at hc22
    refine Run.skip <| Run.seq <| Run.region <| RL.val (x_assignI rfl) <| RL.nil <| Run.seq <| Run.seq <| Run.region ?_; refine RL.val (x_assignI rfl) <| RL.nil <| Run.block ?_; refine Run.loop (ι := Nat) (fun i ρ' w' => ∃ n : Nat, Holds ρ' [(0, .string (s)), (3, .int .i64 (((n : Nat) : Int))), (4, .int .i64 (((i : Nat) : Int)))] ∧ Ext w w' ∧ (i ≤ s.size) ∧ (NumAt s i n)) (fun i => s.size - i) 4 ?_ ?_
    ·refine ⟨0, ⟨rfl, rfl, rfl, trivial⟩, (Keeps.refl _ w), ?_, ?_⟩
     ·omega
     ·exact NumAt.zero
    rintro i ρ_3 w_1 ⟨n, hH_2, K0, hi, hnm⟩ ih1; obtain ⟨ρ₀, rfl⟩ := hH_2.ex; clear hH_2; refine Run.seq <| Run.seq <| Run.region <| RL.val (x_moveI rfl) <| RL.val (x_moveS rfl) <| RL.val (x_lenStr Tryz.underlying9 rfl) <| RL.val (x_ltI rfl rfl) <| RL.nil ?_; refine Run.cond rfl (fun hc26 => ?_) (fun hc26 => ?_)
    ·try simp only [br] at hc26
     refine Run.skip <| Run.seq <| Run.block <| Run.seq <| Run.seq ?_; obtain ⟨c, hx⟩ : ∃ c, s.data.toList[i]? = some c := ⟨_, List.getElem?_eq_getElem (by omega)⟩; have hnl := hnm.lt (by omega); have hc8 := UInt8.toNat_lt c; refine Run.region <| RL.val (x_moveS rfl) <| RL.val (x_moveI rfl) <| RL.val (x_idxStrN (i := i) (c := c) Tryz.underlying9 rfl rfl hx) <| RL.val (x_ltI rfl rfl) <| RL.val (x_moveB rfl) <| RL.gval (wantedF rfl rfl rfl rfl) (fun hg => (x_moveS rfl)) <| RL.gval (wantedF rfl rfl rfl rfl) (fun hg => (x_moveI rfl)) ?_; refine RL.gval (wantedF rfl rfl rfl rfl) (fun hg => (x_idxStrN (i := i) (c := c) Tryz.underlying9 (gvr hg) (gvr hg) hx)) <| RL.gval (wantedF rfl rfl rfl rfl) (fun hg => (x_gtI (gvr hg) rfl)) <| RL.val (x_or rfl rfl rfl) <| RL.nil ?_; refine Run.cond rfl (fun hc38 => ?_) (fun hc38 => ?_)
     ·try simp only [br] at hc38
      refine Run.seq <| Run.region <| RL.val (x_assignI rfl) <| RL.nil <| Run.ret1 (v := .int .i64 (0)) Tryz.func76 rfl rfl ?_; have hz := num_bad hnm.lo hx (by omega); exact ⟨_, rfl, by rw [hz]; rfl, K0⟩
     ·try simp only [br] at hc38
      refine Run.skip <| Run.region <| RL.val (x_moveI rfl) <| RL.val (litI (c := ((n * 10 : Nat) : Int)) (x_mul rfl rfl (by omega) (by omega)) rfl) <| RL.val (x_moveS rfl) <| RL.val (x_moveI rfl) <| RL.val (x_idxStrN (i := i) (c := c) Tryz.underlying9 rfl rfl hx) <| RL.val (x_subW rfl rfl) ?_; refine RL.val (litI (c := ((c.toNat - 48 : Nat) : Int)) (x_convI rfl ⟨_, Tryz.underlying5⟩ Tryz.underlying3) (dig_sub (by omega) (by omega))) <| RL.val (litI (c := (((n * 10) + (c.toNat - 48) : Nat) : Int)) (x_add rfl rfl (by omega) (by omega)) rfl) <| RL.val (x_assignI rfl) <| RL.nil <| Run.inBlock <| Run.region <| RL.val (x_moveI rfl) <| RL.val (litI (c := ((i + 1 : Nat) : Int)) (x_add rfl rfl (by omega) (by omega)) rfl) ?_; refine RL.val (x_assignI rfl) <| RL.nil ?_; refine ih1 (i + 1) _ _ ?_ (by omega); refine ⟨_, ⟨rfl, rfl, rfl, trivial⟩, K0, ?_, ?_⟩
      ·omega
      ·exact hnm.step hx (by omega) (by omega)
    ·try simp only [br] at hc26
     refine Run.exit rfl <| Run.seq <| Run.region <| RL.val (x_moveI rfl) <| RL.val (x_assignI rfl) <| RL.nil <| Run.ret1 (v := .int .i64 (((n : Nat) : Int))) Tryz.func76 rfl rfl ?_; exact ⟨_, rfl, by rw [hnm.done (by omega) (by omega) (by omega) hB h4 (by omega)], K0⟩
  ·refine Run.region ?_
   refine RL.val (x_moveS rfl) <| RL.val (x_lenStr Tryz.underlying9 rfl) <| RL.val (litF (x_ltI rfl rfl) (by simp only [decide_eq_false_iff_not]; omega)) <| RL.val (x_moveB rfl) <| RL.gst (wantedF1 rfl rfl rfl rfl) <| St1.val (x_moveS rfl) <| RL.gst (wantedF1 rfl rfl rfl rfl) <| St1.val (x_lenStr Tryz.underlying9 rfl) <| RL.gst (wantedF1 rfl rfl rfl rfl) <| St1.val (litF (x_gtI rfl rfl) (by simp only [decide_eq_false_iff_not]; omega)) <| RL.val (x_orF rfl rfl rfl) ?_; refine RL.val (x_moveB rfl) <| RL.gst (wantedF1 rfl rfl rfl rfl) <| St1.val (x_moveS rfl) <| RL.gst (wantedF1 rfl rfl rfl rfl) <| St1.val (x_slStrTo (j := 4) Tryz.underlying9 rfl rfl (by omega)) <| RL.gst (wantedF1 rfl rfl rfl rfl) <| St1.val (litT (x_neS rfl rfl) (by simpa [logB] using hB)) <| RL.val (x_orF rfl rfl rfl) <| RL.val (x_moveB rfl) <| RL.guardF (wantedF0 rfl rfl rfl rfl) <| RL.guardF (wantedF0 rfl rfl rfl rfl) ?_; refine RL.guardF (wantedF0 rfl rfl rfl rfl) <| RL.val (x_or (b := true) (e := false) rfl rfl rfl) <| RL.nil <| Run.condT rfl <| Run.seq <| Run.region <| RL.val (x_assignI rfl) <| RL.nil ?_; refine Run.ret1 (v := .int .i64 (0)) Tryz.func76 rfl rfl ?_; have hz := num_pre hB; exact ⟨_, rfl, by rw [hz]; rfl, (Keeps.refl _ w)⟩
end Go.Proofs.YtlhepanmdchjoaaGreatDoor

/-
  Layer 7's reference: Segments, last, Bytes.
-/
namespace Go.Proofs.YtlhepanmdchjoaaGreatDoor
attribute [local irreducible] St1 RL RA RT RT1 Run
attribute [local irreducible] crcN crcL crcS crcB numL leL unfR nameS segsL sortZ segI segO hasP restP
attribute [local irreducible] readAll mayP frameB
attribute [local irreducible] openP appendP replaceP syncP
attribute [local irreducible] segN insI insAll
theorem ty68 : Ty Tryz.prog 68 1 8 (.pointer none) false := ty_of (by kernel_rfl) (by kernel_rfl)
theorem en37 : Enters Tryz.prog 37 := enters_of Tryz.func37 rfl (by kernel_rfl)
theorem en64 : Enters Tryz.prog 64 := enters_of Tryz.func64 rfl (by kernel_rfl)
theorem en67 : Enters Tryz.prog 67 := enters_of Tryz.func67 rfl (by kernel_rfl)
theorem en71 : Enters Tryz.prog 71 := enters_of Tryz.func71 rfl (by kernel_rfl)
theorem en76 : Enters Tryz.prog 76 := enters_of Tryz.func76 rfl (by kernel_rfl)
set_option maxRecDepth 100000 in
set_option maxHeartbeats 4000000 in
theorem rsegs_ (b x : Nat) (F : Nat → Prop) (room : Int) (pl : List PF) (w : World) (hb : Blk w b [.pointer (some ⟨x, 0, none⟩)] 112) (hR : RefAt w x F room pl) (hbx : ¬ F b) :
  Calls Tryz.prog 37 #[.pointer (some ⟨b, 0, none⟩)] w (Ret (fun v w' => ∃ a' c', v = .slice a' (segsL pl).length c' ∧ OwnSl w' 3 a' c' (segsL pl) ∧ (∀ q, own a' q → w.heap.size ≤ q) ∧ Ext w w')) := by
 have hok := hR.ok; have hlen := hok.len; have hsl := segsL_len pl; have hnl : (namesS pl).length ≤ 64 := by rw [namesS, sortN_mem.length_eq, List.length_map]; exact hlen
 refine calls_run (n := 56) Tryz.func37 rfl rfl rfl <| Run.seq <| Run.region <| RL.val (x_assignSl rfl) <| RL.nil <| Run.seq <| Run.region <| RL.val (x_assignSl rfl) ?_; refine RL.nil <| Run.seq <| Run.seq <| Run.region <| RL.val (x_moveP rfl) <| RL.val (x_nilCheck rfl) <| RL.val (x_fld (o' := 0) Tryz.underlying112 rfl ty68 rfl rfl rfl) <| RL.val (x_ld (v := .pointer (some ⟨x, 0, none⟩)) ty68 rfl rfl (hb.cl.field (i := 0) rfl)) ?_; refine RL.st rfl <| St1.call (vals := [.pointer (some ⟨x, 0, none⟩)]) en64 rfl (filesRA hR) ?_; rintro _ w_3 ⟨a_1, c_2, rfl, ho_4, hg_5, K_6⟩; clear hg_5; replace hb := hb.ext K_6; replace hR := hR.ext K_6; have K0 := (K_6 : Ext w _); refine RL.val (x_lenSl Tryz.underlying61 rfl) <| RL.val (x_moveI rfl) <| RL.nil <| Run.block ?_; refine Run.loop (ι := Nat) (fun i ρ' w' => ∃ az : Option Addr, ∃ cz : Nat, Holds ρ' [(3, .slice (az) ((insAll (segI ((namesS pl).take i))).length) (cz)), (15, .slice (a_1) ((namesS pl).length) (c_2)), (16, .int .i64 ((((namesS pl).length : Nat) : Int))), (17, .int .i64 (((i : Nat) : Int)))] ∧ Ext w w' ∧ (Blk w' b [.pointer (some ⟨x, 0, none⟩)] 112) ∧ (RefAt w' x F room pl) ∧ (OwnSl w' 9 (a_1) (c_2) (namesS pl)) ∧ (OwnSl w' 3 az cz (insAll (segI ((namesS pl).take i)))) ∧ (¬ own az b) ∧ (∀ q_, own az q_ → ¬ F q_) ∧ (∀ q_, own az q_ → ¬ own a_1 q_) ∧ (∀ q_, own az q_ → w.heap.size ≤ q_) ∧ (i ≤ (namesS pl).length)) (fun i => (namesS pl).length - i) 0 ?_ ?_
 ·rw [show insAll (segI ((namesS pl).take 0)) = [] by rw [List.take_zero]; unfold segI insAll; rfl]
  have ho_17 := OwnSl.nil (α := Int) w_3 3; refine ⟨_, _, ⟨rfl, rfl, rfl, rfl, trivial⟩, K0, hb, hR, ho_4, ho_17, (own_none b), (fun q_ h1 _ => own_none q_ h1), (fun q_ h1 _ => own_none q_ h1), (fun q_ h1 => absurd h1 (own_none q_)), ?_⟩
  ·omega
 clear hb hR ho_4; clear K0; rintro i ρ_18 w_10 ⟨az, cz, hH_11, K0, hb, hR, ho_4, ho_12, pr_13, pr_14, pr_15, pr_16, hi⟩ ih1; obtain ⟨ρ₀, rfl⟩ := hH_11.ex; clear hH_11; refine Run.seq <| Run.region <| RL.val (x_ltI rfl rfl) <| RL.nil <| Run.seq ?_; refine Run.cond rfl (fun hc18 => ?_) (fun hc18 => ?_)
 ·try simp only [br] at hc18
  refine Run.skip <| Run.seq <| Run.block <| Run.seq <| Run.region ?_; obtain ⟨b_19, o_20, s, hs, ha_21, hc_22⟩ := ho_4.sl.el (i := i) (by first | omega | (simp only [List.length_set]; omega)); refine RL.val (x_idxN Tryz.underlying61 ty9 rfl rfl ha_21 (by first | omega | (simp only [List.length_set]; omega))) <| RL.val (x_ldV (v := .string (s)) (y := s) ty9 rfl hc_22 rfl) <| RL.val (x_assignS rfl) <| RL.nil ?_; obtain ⟨hsm0, hsm⟩ := names_may hok hs; have hil := segI_len (namesS pl) i; have hjl := insAll_len (segI ((namesS pl).take i)); refine Run.seq <| Run.region <| RL.val (x_moveS rfl) <| RL.st rfl <| St1.call (vals := [.string (s)]) en76 rfl (refNum_ s _ (by omega)) ?_; rintro _ w_25 ⟨rfl, K_26⟩; replace hb := hb.ext K_26; replace hR := hR.ext K_26; replace ho_4 := ho_4.ext K_26; replace ho_12 := ho_12.ext K_26; replace K0 := K0.ext K_26; refine RL.val (x_assignI rfl) <| RL.nil <| Run.seq <| Run.seq <| Run.region <| RL.val (x_moveI rfl) <| RL.val (x_eqI rfl rfl) <| RL.nil ?_; refine Run.cond rfl (fun hc24 => ?_) (fun hc24 => ?_)
  ·try simp only [br] at hc24
   refine Run.exit rfl <| Run.region <| RL.val (litI (c := ((i + 1 : Nat) : Int)) (x_add rfl rfl (by omega) (by omega)) rfl) <| RL.val (x_moveI rfl) <| RL.nil ?_; have e : insAll (segI ((namesS pl).take (i + 1))) = insAll (segI ((namesS pl).take i)) := by rw [segI_snoc0 hs (by omega)]
   refine ih1 (i + 1) _ _ ?_ (by omega); rw [e]; refine ⟨_, _, ⟨rfl, rfl, rfl, rfl, trivial⟩, K0, hb, hR, ho_4, ho_12, pr_13, pr_14, pr_15, pr_16, ?_⟩
   ·omega
  ·try simp only [br] at hc24
   refine Run.skip <| Run.seq <| Run.region <| RL.val (x_assignSl rfl) <| RL.nil <| Run.seq <| Run.region <| RL.val (x_assignB rfl) ?_; refine RL.nil <| Run.seq <| Run.seq <| Run.region <| RL.val (x_moveSl rfl) <| RL.val (x_lenSl Tryz.underlying47 rfl) <| RL.val (x_moveI rfl) <| RL.nil ?_; refine Run.block ?_; refine Run.loop (ι := Nat) (fun j ρ' w' => ∃ out : List Int, ∃ put : Bool, ∃ ao : Option Addr, ∃ co : Nat, Holds ρ' [(6, .int .i64 (((segN s : Nat) : Int))), (7, .slice (ao) ((out).length) (co)), (8, .bool (put)), (15, .slice (a_1) ((namesS pl).length) (c_2)), (16, .int .i64 ((((namesS pl).length : Nat) : Int))), (17, .int .i64 (((i : Nat) : Int))), (18, .bool (decide (((i : Nat) : Int) < (((namesS pl).length : Nat) : Int)))), (25, .slice (az) ((insAll (segI ((namesS pl).take i))).length) (cz)), (26, .int .i64 ((((insAll (segI ((namesS pl).take i))).length : Nat) : Int))), (27, .int .i64 (((j : Nat) : Int)))] ∧ Ext w w' ∧ (Blk w' b [.pointer (some ⟨x, 0, none⟩)] 112) ∧ (RefAt w' x F room pl) ∧ (OwnSl w' 9 (a_1) (c_2) (namesS pl)) ∧ (OwnSl w' 3 (az) (cz) (insAll (segI ((namesS pl).take i)))) ∧ (OwnSl w' 3 ao co (out)) ∧ (¬ own ao b) ∧ (∀ q_, own ao q_ → ¬ F q_) ∧ (∀ q_, own ao q_ → ¬ own a_1 q_) ∧ (∀ q_, own ao q_ → ¬ own az q_) ∧ (∀ q_, own ao q_ → w.heap.size ≤ q_) ∧ (j ≤ (insAll (segI ((namesS pl).take i))).length) ∧ (InsAt ((segN s : Nat) : Int) (insAll (segI ((namesS pl).take i))) j put out)) (fun j => (insAll (segI ((namesS pl).take i))).length - j) 0 ?_ ?_
   ·have ho_35 := OwnSl.nil (α := Int) w_25 3
    refine ⟨[], false, _, _, ⟨rfl, rfl, rfl, rfl, rfl, rfl, rfl, rfl, rfl, rfl, trivial⟩, K0, hb, hR, ho_4, ho_12, ho_35, (own_none b), (fun q_ h1 _ => own_none q_ h1), (fun q_ h1 _ => own_none q_ h1), (fun q_ h1 _ => own_none q_ h1), (fun q_ h1 => absurd h1 (own_none q_)), ?_, ?_⟩
    ·omega
    ·exact InsAt.zero
   clear hb hR ho_4 ho_12; clear K0; rintro j ρ_36 w_27 ⟨out, put, ao, co, hH_28, K0, hb, hR, ho_4, ho_12, ho_29, pr_30, pr_31, pr_32, pr_33, pr_34, hj, hI⟩ ih2; obtain ⟨ρ₀, rfl⟩ := hH_28.ex; clear hH_28; refine Run.seq <| Run.region <| RL.val (x_ltI rfl rfl) <| RL.nil <| Run.seq ?_; refine Run.cond rfl (fun hc28 => ?_) (fun hc28 => ?_)
   ·try simp only [br] at hc28
    refine Run.skip <| Run.seq <| Run.block <| Run.seq <| Run.region ?_; obtain ⟨b_37, o_38, x, hx, ha_39, hc_40⟩ := ho_12.sl.el (i := j) (by first | omega | (simp only [List.length_set]; omega)); refine RL.val (x_idxN Tryz.underlying47 ty3 rfl rfl ha_39 (by first | omega | (simp only [List.length_set]; omega))) <| RL.val (x_ldV (v := .int .i64 (x)) (y := x) ty3 rfl hc_40 rfl) <| RL.val (x_assignI rfl) <| RL.nil <| Run.seq <| Run.seq <| Run.region <| RL.val (x_moveB rfl) ?_; refine RL.val (x_not rfl) <| RL.val (x_moveB rfl) <| RL.gval (wantedT rfl rfl rfl rfl) (fun hg => (x_moveI rfl)) <| RL.gval (wantedT rfl rfl rfl rfl) (fun hg => (x_moveI rfl)) <| RL.gval (wantedT rfl rfl rfl rfl) (fun hg => (x_ltI (gvr hg) (gvr hg))) <| RL.val (x_and rfl rfl rfl) <| RL.nil ?_; refine Run.cond rfl (fun hc37 => ?_) (fun hc37 => ?_)
    ·try simp only [br] at hc37
     refine Run.seq ?_; have hol := hI.len; refine Run.region <| RL.val (x_moveSl rfl) <| RL.val (x_moveI rfl) <| RL.st rfl <| St1.buildSlice ([((segN s : Nat) : Int)] : List Int) Tryz.underlying47 ty3 rfl rfl (by first | decide | (simp [Enc.size])) ?_; intro b_43 w_44 hl_47 ho_46 K_45; clear hl_47; replace hb := hb.ext K_45; replace hR := hR.ext K_45; replace ho_4 := ho_4.ext K_45; replace ho_12 := ho_12.ext K_45; replace ho_29 := ho_29.ext K_45; replace K0 := K0.ext K_45; refine RL.st rfl <| St1.append (xs := out) (ys := ([((segN s : Nat) : Int)] : List Int)) Tryz.underlying47 ty3 rfl rfl rfl ho_29 ho_46.sl (by first | omega | (simp only [lr]; omega)) (by decide) ?_; intro a_54 c_55 w_56 ho_57 K_58 hm_59 hrm_60; have pr_61 : ¬ own a_54 b := hm_59.not pr_30 hb.lt; have pr_62 : ∀ q_, own a_54 q_ → ¬ F q_ := hm_59.apart pr_31 hR.own_lt; have pr_63 : ∀ q_, own a_54 q_ → ¬ own a_1 q_ := hm_59.apart pr_32 ho_4.own_lt; have pr_64 : ∀ q_, own a_54 q_ → ¬ own az q_ := hm_59.apart pr_33 ho_12.own_lt; have pg_66 : ∀ q_, own a_54 q_ → w.heap.size ≤ q_ := hm_59.ge pr_34 K0.size; replace hb := hb.keep K_58 pr_30; replace hR := hR.keepO K_58 (fun q_ h1 h2 => pr_31 q_ h2 h1); replace ho_4 := ho_4.keepO K_58 (fun q_ h1 h2 => pr_32 q_ h2 h1); replace ho_12 := ho_12.keepO K_58 (fun q_ h1 h2 => pr_33 q_ h2 h1); replace K0 := K0.new K_58 pr_34; clear hm_59; clear hrm_60; refine RL.val (x_assignSl rfl) <| RL.nil <| Run.region <| RL.val (x_assignB rfl) <| RL.nil ?_; have hol := hI.len; refine Run.region <| RL.val (x_moveSl rfl) <| RL.val (x_moveI rfl) <| RL.st rfl <| St1.buildSlice ([x] : List Int) Tryz.underlying47 ty3 rfl rfl (by first | decide | (simp [Enc.size])) ?_; intro b_67 w_68 hl_71 ho_70 K_69; clear hl_71; replace hb := hb.ext K_69; replace hR := hR.ext K_69; replace ho_4 := ho_4.ext K_69; replace ho_12 := ho_12.ext K_69; replace ho_57 := ho_57.ext K_69; replace K0 := K0.ext K_69; refine RL.st rfl <| St1.append (xs := out ++ ([((segN s : Nat) : Int)] : List Int)) (ys := ([x] : List Int)) Tryz.underlying47 ty3 rfl rfl rfl ho_57 ho_70.sl (by first | omega | (simp only [lr]; omega)) (by decide) ?_; intro a_79 c_80 w_81 ho_82 K_83 hm_84 hrm_85; have pr_86 : ¬ own a_79 b := hm_84.not pr_61 hb.lt; have pr_87 : ∀ q_, own a_79 q_ → ¬ F q_ := hm_84.apart pr_62 hR.own_lt; have pr_88 : ∀ q_, own a_79 q_ → ¬ own a_1 q_ := hm_84.apart pr_63 ho_4.own_lt; have pr_89 : ∀ q_, own a_79 q_ → ¬ own az q_ := hm_84.apart pr_64 ho_12.own_lt; have pg_92 : ∀ q_, own a_79 q_ → w.heap.size ≤ q_ := hm_84.ge pg_66 K0.size; replace hb := hb.keep K_83 pr_61; replace hR := hR.keepO K_83 (fun q_ h1 h2 => pr_62 q_ h2 h1); replace ho_4 := ho_4.keepO K_83 (fun q_ h1 h2 => pr_63 q_ h2 h1); replace ho_12 := ho_12.keepO K_83 (fun q_ h1 h2 => pr_64 q_ h2 h1); replace K0 := K0.new K_83 pg_66; clear hm_84; clear hrm_85; refine RL.val (x_assignSl rfl) <| RL.nil <| Run.inBlock <| Run.region <| RL.val (litI (c := ((j + 1 : Nat) : Int)) (x_add rfl rfl (by omega) (by omega)) rfl) <| RL.val (x_moveI rfl) <| RL.nil ?_; obtain ⟨hp0, hp1⟩ : put = false ∧ ((segN s : Nat) : Int) < x := by simpa using hc37
     refine ih2 (j + 1) _ _ ?_ (by omega); refine ⟨out ++ [((segN s : Nat) : Int)] ++ [x], true, _, _, ⟨rfl, rfl, rfl, rfl, rfl, rfl, rfl, rfl, rfl, rfl, trivial⟩, K0, hb, hR, ho_4, ho_12, ho_82, pr_86, pr_87, pr_88, pr_89, pg_92, ?_, ?_⟩
     ·omega
     ·subst hp0; exact hI.put_ hx hp1
    ·try simp only [br] at hc37
     refine Run.skip ?_; have hol := hI.len; refine Run.region <| RL.val (x_moveSl rfl) <| RL.val (x_moveI rfl) <| RL.st rfl <| St1.buildSlice ([x] : List Int) Tryz.underlying47 ty3 rfl rfl (by first | decide | (simp [Enc.size])) ?_; intro b_93 w_94 hl_97 ho_96 K_95; clear hl_97; replace hb := hb.ext K_95; replace hR := hR.ext K_95; replace ho_4 := ho_4.ext K_95; replace ho_12 := ho_12.ext K_95; replace ho_29 := ho_29.ext K_95; replace K0 := K0.ext K_95; refine RL.st rfl <| St1.append (xs := out) (ys := ([x] : List Int)) Tryz.underlying47 ty3 rfl rfl rfl ho_29 ho_96.sl (by first | omega | (simp only [lr]; omega)) (by decide) ?_; intro a_104 c_105 w_106 ho_107 K_108 hm_109 hrm_110; have pr_111 : ¬ own a_104 b := hm_109.not pr_30 hb.lt; have pr_112 : ∀ q_, own a_104 q_ → ¬ F q_ := hm_109.apart pr_31 hR.own_lt; have pr_113 : ∀ q_, own a_104 q_ → ¬ own a_1 q_ := hm_109.apart pr_32 ho_4.own_lt; have pr_114 : ∀ q_, own a_104 q_ → ¬ own az q_ := hm_109.apart pr_33 ho_12.own_lt; have pg_116 : ∀ q_, own a_104 q_ → w.heap.size ≤ q_ := hm_109.ge pr_34 K0.size; replace hb := hb.keep K_108 pr_30; replace hR := hR.keepO K_108 (fun q_ h1 h2 => pr_31 q_ h2 h1); replace ho_4 := ho_4.keepO K_108 (fun q_ h1 h2 => pr_32 q_ h2 h1); replace ho_12 := ho_12.keepO K_108 (fun q_ h1 h2 => pr_33 q_ h2 h1); replace K0 := K0.new K_108 pr_34; clear hm_109; clear hrm_110; refine RL.val (x_assignSl rfl) <| RL.nil <| Run.inBlock <| Run.region <| RL.val (litI (c := ((j + 1 : Nat) : Int)) (x_add rfl rfl (by omega) (by omega)) rfl) <| RL.val (x_moveI rfl) <| RL.nil ?_; refine ih2 (j + 1) _ _ ?_ (by omega); refine ⟨out ++ [x], put, _, _, ⟨rfl, rfl, rfl, rfl, rfl, rfl, rfl, rfl, rfl, rfl, trivial⟩, K0, hb, hR, ho_4, ho_12, ho_107, pr_111, pr_112, pr_113, pr_114, pg_116, ?_, ?_⟩
     ·omega
     ·cases put with
      | false => exact hI.skip hx (by simpa using hc37)
      | true => exact hI.keep hx
   ·try simp only [br] at hc28
    refine Run.exit rfl <| Run.seq <| Run.seq <| Run.region <| RL.val (x_moveB rfl) <| RL.val (x_not rfl) <| RL.nil ?_; refine Run.cond rfl (fun hc48 => ?_) (fun hc48 => ?_)
    ·try simp only [br] at hc48
     have hol := hI.len; refine Run.region <| RL.val (x_moveSl rfl) <| RL.val (x_moveI rfl) <| RL.st rfl <| St1.buildSlice ([((segN s : Nat) : Int)] : List Int) Tryz.underlying47 ty3 rfl rfl (by first | decide | (simp [Enc.size])) ?_; intro b_117 w_118 hl_121 ho_120 K_119; clear hl_121; replace hb := hb.ext K_119; replace hR := hR.ext K_119; replace ho_4 := ho_4.ext K_119; replace ho_12 := ho_12.ext K_119; replace ho_29 := ho_29.ext K_119; replace K0 := K0.ext K_119; refine RL.st rfl <| St1.append (xs := out) (ys := ([((segN s : Nat) : Int)] : List Int)) Tryz.underlying47 ty3 rfl rfl rfl ho_29 ho_120.sl (by first | omega | (simp only [lr]; omega)) (by decide) ?_; intro a_128 c_129 w_130 ho_131 K_132 hm_133 hrm_134; have pr_135 : ¬ own a_128 b := hm_133.not pr_30 hb.lt; have pr_136 : ∀ q_, own a_128 q_ → ¬ F q_ := hm_133.apart pr_31 hR.own_lt; have pr_137 : ∀ q_, own a_128 q_ → ¬ own a_1 q_ := hm_133.apart pr_32 ho_4.own_lt; have pg_140 : ∀ q_, own a_128 q_ → w.heap.size ≤ q_ := hm_133.ge pr_34 K0.size; replace hb := hb.keep K_132 pr_30; replace hR := hR.keepO K_132 (fun q_ h1 h2 => pr_31 q_ h2 h1); replace ho_4 := ho_4.keepO K_132 (fun q_ h1 h2 => pr_32 q_ h2 h1); replace ho_12 := ho_12.keepO K_132 (fun q_ h1 h2 => pr_33 q_ h2 h1); replace K0 := K0.new K_132 pr_34; clear hm_133; clear hrm_134; refine RL.val (x_assignSl rfl) <| RL.nil <| Run.region <| RL.val (x_moveSl rfl) <| RL.val (x_assignSl rfl) <| RL.nil <| Run.inBlock <| Run.region ?_; refine RL.val (litI (c := ((i + 1 : Nat) : Int)) (x_add rfl rfl (by omega) (by omega)) rfl) <| RL.val (x_moveI rfl) <| RL.nil ?_; have e := (segI_snoc1 hs (by omega)).trans ((hI.ends (by omega)).2 (by simpa using hc48)); refine ih1 (i + 1) _ _ ?_ (by omega); rw [e]; refine ⟨_, _, ⟨rfl, rfl, rfl, rfl, trivial⟩, K0, hb, hR, ho_4, ho_131, pr_135, pr_136, pr_137, pg_140, ?_⟩
     ·omega
    ·try simp only [br] at hc48
     refine Run.skip <| Run.region <| RL.val (x_moveSl rfl) <| RL.val (x_assignSl rfl) <| RL.nil <| Run.inBlock <| Run.region <| RL.val (litI (c := ((i + 1 : Nat) : Int)) (x_add rfl rfl (by omega) (by omega)) rfl) ?_; refine RL.val (x_moveI rfl) <| RL.nil ?_; have e := (segI_snoc1 hs (by omega)).trans ((hI.ends (by omega)).1 (by simpa using hc48)); refine ih1 (i + 1) _ _ ?_ (by omega); rw [e]; refine ⟨_, _, ⟨rfl, rfl, rfl, rfl, trivial⟩, K0, hb, hR, ho_4, ho_29, pr_30, pr_31, pr_32, pr_34, ?_⟩
     ·omega
 ·try simp only [br] at hc18
  refine Run.exit rfl <| Run.seq <| Run.region <| RL.val (x_moveSl rfl) <| RL.val (x_assignSl rfl) <| RL.nil <| Run.ret1 (v := .slice (az) ((insAll (segI ((namesS pl).take i))).length) (cz)) Tryz.func37 rfl rfl ?_; have hie : i = (namesS pl).length := by omega
  subst hie; rw [List.take_length, insAll_sort] at ho_12; have e_ : sortZ (segI (namesS pl)) = segsL pl := by unfold segsL; rfl
  have e2_ : (insAll (segI ((namesS pl).take (namesS pl).length))).length = (segsL pl).length := by rw [List.take_length, insAll_sort, e_]
  rw [e_] at ho_12; rw [e2_]; exact ⟨_, rfl, az, cz, rfl, ho_12, pr_16, K0⟩
set_option maxRecDepth 100000 in
set_option maxHeartbeats 4000000 in
theorem rlast_ (b x : Nat) (F : Nat → Prop) (room : Int) (pl : List PF) (w : World) (hb : Blk w b [.pointer (some ⟨x, 0, none⟩)] 112) (hR : RefAt w x F room pl) (hbx : ¬ F b) :
  Calls Tryz.prog 73 #[.pointer (some ⟨b, 0, none⟩)] w (Ret (fun v w' => v = .int .i64 (lastP pl) ∧ Ext w w')) := by
 have hok := hR.ok; have hlen := hok.len; have hsl := segsL_len pl; have hnl : (namesS pl).length ≤ 64 := by rw [namesS, sortN_mem.length_eq, List.length_map]; exact hlen
 refine calls_run (n := 15) Tryz.func73 rfl rfl rfl <| Run.seq <| Run.region <| RL.val (x_assignI rfl) <| RL.nil <| Run.seq <| Run.region <| RL.val (x_moveP rfl) ?_; refine RL.st rfl <| St1.call (vals := [.pointer (some ⟨b, 0, none⟩)]) en37 rfl (rsegs_ _ _ _ _ _ _ hb hR hbx) ?_; rintro _ w_3 ⟨a_1, c_2, rfl, ho_4, hg_5, K_6⟩; clear hg_5; replace hb := hb.ext K_6; replace hR := hR.ext K_6; have K0 := (K_6 : Ext w _); refine RL.val (x_assignSl rfl) <| RL.nil <| Run.seq <| Run.seq <| Run.region <| RL.val (x_moveSl rfl) <| RL.val (x_lenSl Tryz.underlying47 rfl) <| RL.val (x_eqI rfl rfl) ?_; refine RL.nil ?_; refine Run.cond rfl (fun hc8 => ?_) (fun hc8 => ?_)
 ·try simp only [br] at hc8
  refine Run.seq <| Run.region <| RL.val (x_assignI rfl) <| RL.nil <| Run.ret1 (v := .int .i64 (0)) Tryz.func73 rfl rfl ?_; exact ⟨_, rfl, by rw [last_none (by omega)], K0⟩
 ·try simp only [br] at hc8
  refine Run.skip <| Run.seq <| Run.region <| RL.val (x_moveSl rfl) <| RL.val (x_moveSl rfl) <| RL.val (x_lenSl Tryz.underlying47 rfl) <| RL.val (litI (c := (((segsL pl).length - 1 : Nat) : Int)) (x_sub rfl rfl (by omega) (by omega)) (by omega)) ?_; obtain ⟨b_10, o_11, x1, hx, ha_12, hc_13⟩ := ho_4.sl.el (i := (segsL pl).length - 1) (by first | omega | (simp only [List.length_set]; omega)); refine RL.val (x_idxN Tryz.underlying47 ty3 rfl rfl ha_12 (by first | omega | (simp only [List.length_set]; omega))) <| RL.val (x_ldV (v := .int .i64 (x1)) (y := x1) ty3 rfl hc_13 rfl) <| RL.val (x_assignI rfl) <| RL.nil <| Run.ret1 (v := .int .i64 (x1)) Tryz.func73 rfl rfl ?_; exact ⟨_, rfl, by rw [last_at hx], K0⟩
set_option maxRecDepth 100000 in
set_option maxHeartbeats 4000000 in
theorem rbytes_ (b x : Nat) (F : Nat → Prop) (room : Int) (pl : List PF) (w : World) (hb : Blk w b [.pointer (some ⟨x, 0, none⟩)] 112) (hR : RefAt w x F room pl) (hbx : ¬ F b) :
  Calls Tryz.prog 38 #[.pointer (some ⟨b, 0, none⟩)] w (Ret (fun v w' => v = .int .i64 ((bytesP pl (segsL pl) : Nat) : Int) ∧ Ext w w')) := by
 have hok := hR.ok; have hlen := hok.len; have hsl := segsL_len pl; have hnl : (namesS pl).length ≤ 64 := by rw [namesS, sortN_mem.length_eq, List.length_map]; exact hlen
 refine calls_run (n := 32) Tryz.func38 rfl rfl rfl <| Run.seq <| Run.region <| RL.val (x_assignI rfl) <| RL.nil <| Run.seq <| Run.region <| RL.val (x_assignI rfl) ?_; refine RL.nil <| Run.seq <| Run.seq <| Run.region <| RL.val (x_moveP rfl) <| RL.st rfl <| St1.call (vals := [.pointer (some ⟨b, 0, none⟩)]) en37 rfl (rsegs_ _ _ _ _ _ _ hb hR hbx) ?_; rintro _ w_3 ⟨a_1, c_2, rfl, ho_4, hg_5, K_6⟩; clear hg_5; replace hb := hb.ext K_6; replace hR := hR.ext K_6; have K0 := (K_6 : Ext w _); refine RL.val (x_lenSl Tryz.underlying47 rfl) <| RL.val (x_moveI rfl) <| RL.nil <| Run.block ?_; refine Run.loop (ι := Nat) (fun i ρ' w' => Holds ρ' [(0, .pointer (some ⟨b, 0, none⟩)), (3, .int .i64 (((bytesP pl ((segsL pl).take i) : Nat) : Int))), (10, .slice (a_1) ((segsL pl).length) (c_2)), (11, .int .i64 ((((segsL pl).length : Nat) : Int))), (12, .int .i64 (((i : Nat) : Int)))] ∧ Ext w w' ∧ (Blk w' b [.pointer (some ⟨x, 0, none⟩)] 112) ∧ (RefAt w' x F room pl) ∧ (OwnSl w' 3 (a_1) (c_2) (segsL pl)) ∧ (i ≤ (segsL pl).length)) (fun i => (segsL pl).length - i) 0 ?_ ?_
 ·rw [show bytesP pl ((segsL pl).take 0) = 0 by rw [List.take_zero]; rfl]
  refine ⟨⟨rfl, rfl, rfl, rfl, rfl, trivial⟩, K0, hb, hR, ho_4, ?_⟩
  ·omega
 clear hb hR ho_4; clear K0; rintro i ρ_12 w_10 ⟨hH_11, K0, hb, hR, ho_4, hi⟩ ih1; obtain ⟨ρ₀, rfl⟩ := hH_11.ex; clear hH_11; refine Run.seq <| Run.region <| RL.val (x_ltI rfl rfl) <| RL.nil <| Run.seq ?_; refine Run.cond rfl (fun hc13 => ?_) (fun hc13 => ?_)
 ·try simp only [br] at hc13
  refine Run.skip <| Run.seq <| Run.block <| Run.seq <| Run.region ?_; obtain ⟨b_13, o_14, n, hx, ha_15, hc_16⟩ := ho_4.sl.el (i := i) (by first | omega | (simp only [List.length_set]; omega)); refine RL.val (x_idxN Tryz.underlying47 ty3 rfl rfl ha_15 (by first | omega | (simp only [List.length_set]; omega))) <| RL.val (x_ldV (v := .int .i64 (n)) (y := n) ty3 rfl hc_16 rfl) <| RL.val (x_assignI rfl) <| RL.nil <| Run.seq ?_; have hnm := nameS_may n; refine Run.drawT [] (m := 14) (by kernel_rfl) rfl ?_; intro w_19 K_20; replace hb := hb.ext K_20; replace hR := hR.ext K_20; replace ho_4 := ho_4.ext K_20; replace K0 := K0.ext K_20; refine ⟨fun w' => Blk w' b [.pointer (some ⟨x, 0, none⟩)] 112 ∧ True, ?_⟩; refine RT.takeP (v := .pointer (some ⟨b, 0, none⟩)) 0 rfl (by kernel_rfl) (.inr ⟨hb, trivial⟩) (fun _ => (x_moveP rfl)) <| RT.takeP (v := .pointer (some ⟨b, 0, none⟩)) 1 rfl (by kernel_rfl) (.inr ⟨hb, trivial⟩) (fun _ => (x_nilCheck rfl)) <| RT.takeP (v := .pointer (some ⟨b, 0, none⟩)) 2 rfl (by kernel_rfl) (.inr ⟨hb, trivial⟩) (fun _ => (x_fld (o' := 0) Tryz.underlying112 rfl ty68 rfl rfl rfl)) <| RT.take (v := .pointer (some ⟨x, 0, none⟩)) 3 rfl (by kernel_rfl) ⟨hb, trivial⟩ (by rintro _ ⟨hb, -⟩; exact (x_ld (v := .pointer (some ⟨x, 0, none⟩)) ty68 rfl rfl (hb.cl.field (i := 0) rfl))) <| RT.takeP (v := .int .i64 (n)) 4 rfl (by kernel_rfl) (.inr ⟨hb, trivial⟩) (fun _ => (x_moveI rfl)) <| RT.st 5 rfl (by kernel_rfl) rfl <| St1.call (vals := [.int .i64 (n)]) en67 rfl (refName_ n _) ?_; rintro _ w_21 ⟨rfl, K_22⟩; replace hb := hb.ext K_22; replace hR := hR.ext K_22; replace ho_4 := ho_4.ext K_22; replace K0 := K0.ext K_22; refine ⟨.inr ⟨hb, trivial⟩, ?_⟩; refine RT.st 6 rfl (by kernel_rfl) rfl <| St1.call (vals := [.pointer (some ⟨x, 0, none⟩), .string (nameS n)]) en71 rfl (sizeRA hR (nameS n) (by first | omega | decide)) ?_; rintro _ w_23 ⟨rfl, K_24⟩; replace hb := hb.ext K_24; replace hR := hR.ext K_24; replace ho_4 := ho_4.ext K_24; replace K0 := K0.ext K_24; refine ⟨.inr ⟨hb, trivial⟩, ?_⟩; refine RT.takeP (v := .tuple #[.int .i64 (((sizeB pl (nameS n) : Nat) : Int)), .int .i64 (((syncB pl (nameS n) : Nat) : Int)), .int .i64 (lookE pl (nameS n))]) 7 rfl (by kernel_rfl) (.inr ⟨hb, trivial⟩) (fun _ => (x_moveT rfl)) <| RT.takeP (v := .int .i64 (((sizeB pl (nameS n) : Nat) : Int))) 8 rfl (by kernel_rfl) (.inr ⟨hb, trivial⟩) (fun _ => (x_extract rfl rfl)) <| RT.takeP (v := .int .i64 (((syncB pl (nameS n) : Nat) : Int))) 9 rfl (by kernel_rfl) (.inr ⟨hb, trivial⟩) (fun _ => (x_extract rfl rfl)) <| RT.takeP (v := .int .i64 (lookE pl (nameS n))) 10 rfl (by kernel_rfl) (.inr ⟨hb, trivial⟩) (fun _ => (x_extract rfl rfl)) <| RT.takeP (v := .int .i64 (((sizeB pl (nameS n) : Nat) : Int))) 11 rfl (by kernel_rfl) (.inr ⟨hb, trivial⟩) (fun _ => (x_assignI rfl)) <| RT.takeP (v := .int .i64 (((syncB pl (nameS n) : Nat) : Int))) 12 rfl (by kernel_rfl) (.inr ⟨hb, trivial⟩) (fun _ => (x_assignI rfl)) <| RT.takeP (v := .int .i64 (lookE pl (nameS n))) 13 rfl (by kernel_rfl) (.inr ⟨hb, trivial⟩) (fun _ => (x_assignI rfl)) <| RT.done (by kernel_rfl) ?_; have hby := bytesP_le hok ((segsL pl).take i); have hsz := sizeB_le hok (nameS n); have htl := List.length_take_le i (segsL pl); refine Run.region <| RL.val (x_moveI rfl) <| RL.val (x_moveI rfl) <| RL.val (litI (c := (((bytesP pl ((segsL pl).take i)) + (sizeB pl (nameS n)) : Nat) : Int)) (x_add rfl rfl (by omega) (by omega)) rfl) <| RL.val (x_assignI rfl) <| RL.nil <| Run.inBlock <| Run.region ?_; refine RL.val (litI (c := ((i + 1 : Nat) : Int)) (x_add rfl rfl (by omega) (by omega)) rfl) <| RL.val (x_moveI rfl) <| RL.nil ?_; have e := bytesP_snoc (pl := pl) hx; refine ih1 (i + 1) _ _ ?_ (by omega); rw [e]; refine ⟨⟨rfl, rfl, rfl, rfl, rfl, trivial⟩, K0, hb, hR, ho_4, ?_⟩
  ·omega
 ·try simp only [br] at hc13
  refine Run.exit rfl <| Run.seq <| Run.region <| RL.val (x_moveI rfl) <| RL.val (x_assignI rfl) <| RL.nil <| Run.ret1 (v := .int .i64 (((bytesP pl ((segsL pl).take i) : Nat) : Int))) Tryz.func38 rfl rfl ?_; have hie : i = (segsL pl).length := by omega
  exact ⟨_, rfl, by rw [hie, List.take_length], K0⟩
end Go.Proofs.YtlhepanmdchjoaaGreatDoor

/-
  Layer 7's reference: frames.
-/
namespace Go.Proofs.YtlhepanmdchjoaaGreatDoor
attribute [local irreducible] St1 RL RA RT RT1 Run
theorem unfR_rest {b P R : List UInt8} (h : unfR b = .ok (P, R)) : R = b.drop (b.length - R.length) := by
 rw [unfR] at h
 split at h
 ·cases h
 ·split at h
  ·cases h
  ·split at h
   ·cases h
   ·split at h
    ·cases h
    ·simp only [Except.ok.injEq, Prod.mk.injEq] at h
     obtain ⟨_, rfl⟩ := h; rw [List.length_drop]
     congr 1
     omega
theorem rest_drop {xs R : List UInt8} {n : Nat} (hn : n ≤ xs.length) (hl : R.length ≤ xs.length - n) (h : R = (xs.drop n).drop ((xs.drop n).length - R.length)) : xs.drop (xs.length - R.length) = R := by
 conv => rhs; rw [h]
 rw [List.drop_drop, List.length_drop]
 congr 1
 omega
attribute [local irreducible] crcN crcL crcS crcB numL leL unfR nameS segsL sortZ segI segO hasP restP
attribute [local irreducible] readAll mayP frameB
attribute [local irreducible] openP appendP replaceP syncP
attribute [local irreducible] segN insI insAll
theorem en96 : Enters Tryz.prog 96 := enters_of Tryz.func96 rfl (by kernel_rfl)
set_option maxRecDepth 100000 in
set_option maxHeartbeats 4000000 in
theorem rframes_ (a : Option Addr) (xs : List UInt8) (c : Nat) (w : World) (hs : SlOf w a xs) (hl : xs.length ≤ 1073741824) (hc : xs.length ≤ c) :
  Calls Tryz.prog 68 #[.slice (a) (xs.length) (c)] w (Ret (fun v w' => ∃ a' c', ∃ rs : List RB, v = .tuple #[.slice a' (rs.map RB.h).length c', .int .i64 ((xs.length - (framesR xs).2.length : Nat) : Int)] ∧ OwnSl w' 32 a' c' (rs.map RB.h) ∧ RecsO w' rs ∧ rs.map RB.b = (framesR xs).1 ∧ (∀ q, own a' q → w.heap.size ≤ q) ∧ (∀ q, recsS rs q → w.heap.size ≤ q) ∧ (∀ q, own a' q → ¬ recsS rs q) ∧ Ext w w')) := by
 refine calls_run (n := 36) Tryz.func68 rfl rfl rfl <| Run.seq <| Run.region <| RL.val (x_assignSl rfl) <| RL.val (x_assignI rfl) <| RL.nil <| Run.seq <| Run.region ?_; refine RL.val (x_assignSl rfl) <| RL.nil ?_; have hR : RecsO w ([] : List RB) := RecsO.nil w; refine Run.seq <| Run.region <| RL.val (x_assignI rfl) <| RL.nil <| Run.seq <| Run.block ?_; refine Run.loop (ι := Nat) (fun n ρ' w' => ∃ rs : List RB, ∃ ao : Option Addr, ∃ co : Nat, Holds ρ' [(0, .slice (a) (xs.length) (c)), (4, .slice (ao) ((rs.map RB.h).length) (co)), (5, .int .i64 (((n : Nat) : Int)))] ∧ Ext w w' ∧ (RecsO w' (rs)) ∧ (OwnSl w' 32 ao co (rs.map RB.h)) ∧ (∀ q_, recsS (rs) q_ → ¬ own ao q_) ∧ (∀ q_, recsS (rs) q_ → w.heap.size ≤ q_) ∧ (∀ q_, own ao q_ → w.heap.size ≤ q_) ∧ (rs.length ≤ n) ∧ (n ≤ xs.length) ∧ (rs.map RB.b ++ (framesR (xs.drop n)).1 = (framesR xs).1) ∧ ((framesR xs).2 = (framesR (xs.drop n)).2)) (fun n => xs.length - n) 0 ?_ ?_
 ·have ho_8 := OwnSl.nil (α := SH) w 32
  refine ⟨[], _, _, ⟨rfl, rfl, rfl, trivial⟩, (Keeps.refl _ w), hR, ho_8, (fun q_ h1 h2 => (fun q_ h1 _ => own_none q_ h1) q_ h2 h1), (fun q_ ⟨_, h_, _⟩ => absurd h_ (by simp)), (fun q_ h1 => absurd h1 (own_none q_)), ?_, ?_, ?_, ?_⟩
  ·exact Nat.le_refl _
  ·exact Nat.zero_le _
  ·rfl
  ·rfl
 clear hR; rintro n ρ_9 w_1 ⟨rs, ao, co, hH_2, K0, hO_3, ho_4, pr_5, pr_6, pr_7, hrs, hn, hFr, hFr2⟩ ih1; obtain ⟨ρ₀, rfl⟩ := hH_2.ex; clear hH_2; refine Run.seq <| Run.seq <| Run.region <| RL.val (x_moveI rfl) <| RL.val (x_moveSl rfl) <| RL.val (x_lenSl Tryz.underlying32 rfl) <| RL.val (x_ltI rfl rfl) <| RL.nil ?_; refine Run.cond rfl (fun hc12 => ?_) (fun hc12 => ?_)
 ·try simp only [br] at hc12
  refine Run.skip <| Run.block <| Run.seq ?_; have hdl : (xs.drop n).length = xs.length - n := List.length_drop; refine Run.region <| RL.val (x_moveSl rfl) <| RL.val (x_moveI rfl) <| RL.val (x_sliceFrom (xs := xs) Tryz.underlying32 ty5 rfl rfl (by omega)) <| RL.st rfl <| St1.call (vals := [.slice (advA a c n 1) ((xs.drop n).length) (c - n)]) en96 rfl (runframe_ _ _ _ _ ((hs.ext K0).from n c hc) (by omega) (by rw [List.length_drop]; omega)) ?_; rintro _ wU_10 hU_10; rcases hU_10 with hU_10 | hU_10
  ·obtain ⟨P_11, R_12, a_13, c_14, a_15, c_16, hU_17, rfl, ho_18, ho_19, hap_20, hg_21, hg_22, K_23⟩ := hU_10
   have pr_25 : ∀ q_, own a_13 q_ → ¬ own ao q_ := apartNew hg_21 ho_4.own_lt; have pg_26 : ∀ q_, own a_13 q_ → w.heap.size ≤ q_ := fun q_ h => Nat.le_trans K0.size (hg_21 q_ h); replace hO_3 := hO_3.ext K_23; replace ho_4 := ho_4.ext K_23; replace K0 := K0.ext K_23; refine RL.val (x_moveT rfl) <| RL.val (x_extract rfl rfl) <| RL.val (x_extract rfl rfl) <| RL.val (x_extract rfl rfl) <| RL.val (x_assignSl rfl) <| RL.val (x_assignSl rfl) <| RL.val (x_assignI rfl) <| RL.nil ?_; refine Run.seq <| Run.seq <| Run.region <| RL.val (x_moveI rfl) <| RL.val (litF (x_neI rfl rfl) (by decide)) <| RL.nil <| Run.condF rfl <| Run.skip ?_; refine Run.seq ?_; have hrl : (rs.map RB.h).length = rs.length := List.length_map ..; have hUl := unfR_len hU_17; rw [List.length_drop] at hUl; refine Run.region <| RL.val (x_moveSl rfl) <| RL.val (x_moveSl rfl) <| RL.st rfl <| St1.buildSlice ([⟨a_13, P_11.length, c_14⟩] : List SH) Tryz.underlying22 ty32 rfl rfl (by first | decide | (simp [Enc.size])) ?_; intro b_30 w_31 hl_34 ho_33 K_32; clear hl_34; replace hO_3 := hO_3.ext K_32; replace ho_4 := ho_4.ext K_32; replace ho_18 := ho_18.ext K_32; replace K0 := K0.ext K_32; refine RL.st rfl <| St1.append (xs := rs.map RB.h) (ys := ([⟨a_13, P_11.length, c_14⟩] : List SH)) Tryz.underlying22 ty32 rfl rfl rfl ho_4 ho_33.sl (by first | omega | (simp only [lr]; omega)) (by decide) ?_; intro a_40 c_41 w_42 ho_43 K_44 hm_45 hrm_46; have pr_47 : ∀ q_, own a_40 q_ → ¬ recsS (rs) q_ := hm_45.apart (fun q_ h1 h2 => pr_5 q_ h2 h1) hO_3.own_lt; have pr_48 : ∀ q_, own a_40 q_ → ¬ own a_13 q_ := hm_45.apart (fun q_ h1 h2 => pr_25 q_ h2 h1) ho_18.own_lt; have pg_51 : ∀ q_, own a_40 q_ → w.heap.size ≤ q_ := hm_45.ge pr_7 K0.size; replace hO_3 := hO_3.keepO K_44 pr_5; replace ho_18 := ho_18.keepO K_44 pr_25; replace K0 := K0.new K_44 pr_7; clear hm_45; clear hrm_46; refine RL.val (x_assignSl rfl) <| RL.nil ?_; have eRR : (rs.map RB.h) ++ ([⟨a_13, P_11.length, c_14⟩] : List SH) = (rs ++ ([⟨a_13, c_14, P_11⟩] : List RB)).map RB.h := by rw [List.map_append]; rfl
   rw [eRR] at ho_43 ⊢; have hR' : RecsO w_42 (rs ++ ([⟨a_13, c_14, P_11⟩] : List RB)) := RecsO.snoc hO_3 ho_18; have pr_53 : ∀ q_, recsS (rs ++ ([⟨a_13, c_14, P_11⟩] : List RB)) q_ → ¬ own a_40 q_ := fun q_ x_ z_ => (recs_case1 _ x_).elim (fun y_ => (fun q_ h1 h2 => pr_48 q_ h2 h1) q_ y_ z_) (fun y_ => (fun y_ => (fun q_ h1 h2 => pr_47 q_ h2 h1) q_ y_ z_) y_); have pg_54 : ∀ q_, recsS (rs ++ ([⟨a_13, c_14, P_11⟩] : List RB)) q_ → w.heap.size ≤ q_ := fun q_ x_ => (recs_case1 _ x_).elim (fun y_ => pg_26 q_ y_) (fun y_ => (fun y_ => pr_6 q_ y_) y_); refine Run.region <| RL.val (x_moveSl rfl) <| RL.val (x_lenSl Tryz.underlying32 rfl) <| RL.val (x_moveSl rfl) <| RL.val (x_lenSl Tryz.underlying32 rfl) <| RL.val (litI (c := ((xs.length - R_12.length : Nat) : Int)) (x_sub rfl rfl (by omega) (by omega)) (by omega)) <| RL.val (x_assignI rfl) <| RL.nil ?_; refine Run.inBlock ?_; have hU2 := framesR_ok (ne_of_len (by rw [List.length_drop]; omega)) hU_17; have hUd := rest_drop (by omega) (by omega) (unfR_rest hU_17); refine ih1 (xs.length - R_12.length) _ _ ?_ (by omega); refine ⟨rs ++ ([⟨a_13, c_14, P_11⟩] : List RB), _, _, ⟨rfl, rfl, rfl, trivial⟩, K0, hR', ho_43, pr_53, pg_54, pg_51, ?_, ?_, ?_, ?_⟩
   ·simp only [List.length_append, List.length_cons, List.length_nil]; omega
   ·omega
   ·rw [List.map_append, List.append_assoc, ← hFr, hU2, hUd]; rfl
   ·rw [hFr2, hU2, hUd]
  ·obtain ⟨e_55, hU_56, rfl, K_57⟩ := hU_10
   have hne := unfR_err hU_56; replace hO_3 := hO_3.ext K_57; replace ho_4 := ho_4.ext K_57; replace K0 := K0.ext K_57; refine RL.val (x_moveT rfl) <| RL.val (x_extract rfl rfl) <| RL.val (x_extract rfl rfl) <| RL.val (x_extract rfl rfl) <| RL.val (x_assignSl rfl) <| RL.val (x_assignSl rfl) <| RL.val (x_assignI rfl) <| RL.nil ?_; refine Run.seq <| Run.seq <| Run.region <| RL.val (x_moveI rfl) <| RL.val (x_neI rfl rfl) <| RL.nil ?_; refine Run.cond rfl (fun hc22 => ?_) (fun hc22 => ?_)
   ·try simp only [br] at hc22
    refine Run.seq <| Run.region <| RL.val (x_moveSl rfl) <| RL.val (x_moveI rfl) <| RL.val (x_assignSl rfl) <| RL.val (x_assignI rfl) <| RL.nil <| Run.ret2 (v := .slice (ao) ((rs.map RB.h).length) (co)) (x := .int .i64 (((n : Nat) : Int))) Tryz.func68 rfl rfl rfl ?_; have hE := framesR_err (ne_of_len (by rw [List.length_drop]; omega)) hU_56; rw [hE] at hFr hFr2; simp only [List.append_nil] at hFr; have hnv : n = xs.length - (framesR xs).2.length := by rw [hFr2, List.length_drop]; omega
    exact ⟨_, rfl, ao, co, rs, by rw [← hnv], ho_4, hO_3, hFr, pr_7, pr_6, (fun q_ h1 h2 => pr_5 q_ h2 h1), K0⟩
   ·try simp only [br] at hc22
    exact absurd hc22 hne
 ·try simp only [br] at hc12
  refine Run.exit rfl <| Run.seq <| Run.region <| RL.val (x_moveSl rfl) <| RL.val (x_moveI rfl) <| RL.val (x_assignSl rfl) <| RL.val (x_assignI rfl) <| RL.nil ?_; refine Run.ret2 (v := .slice (ao) ((rs.map RB.h).length) (co)) (x := .int .i64 (((n : Nat) : Int))) Tryz.func68 rfl rfl rfl ?_; have hE : framesR (xs.drop n) = ([], xs.drop n) := by rw [List.drop_eq_nil_of_le (by omega)]; exact framesR_nil
  rw [hE] at hFr hFr2; simp only [List.append_nil] at hFr; have hnv : n = xs.length - (framesR xs).2.length := by rw [hFr2, List.length_drop]; omega
  exact ⟨_, rfl, ao, co, rs, by rw [← hnv], ho_4, hO_3, hFr, pr_7, pr_6, (fun q_ h1 h2 => pr_5 q_ h2 h1), K0⟩
end Go.Proofs.YtlhepanmdchjoaaGreatDoor
