/-
  The reference's box.
-/
import Derived.Test.YtlediffjclploaaRows
import Derived.Test.YtlediffjclploaaHc
import Derived.Test.YtlediffjclploaaLoop
namespace Go.Proofs.Ytlediffjclploaa
attribute [local irreducible] St1 RL RA RT RT1 Run

/-! ### the reference's box as the program's -/
def cv (r : RKept) : KeptM := ⟨r.hint, if r.sent = true then r.since else -1⟩
def isR (h : Hint) (r : RKept) : Bool := decide (r.hint = h)
def RangeR (L : List RKept) (now : Int) : Prop := ∀ r ∈ L, hE r.hint = 0 ∧ (r.sent = true → 0 ≤ r.since ∧ r.since ≤ now)
structure RBoxAt (w : World) (b : Nat) (al : Option Addr) (cl : Nat) (L : List RKept) (now : Int) : Prop where
  blk : Blk w b [.slice al L.length cl, .int .i64 now] 61
  own : OwnSl w 83 al cl L
  ap : ¬ Go.Proofs.Ytlediffjclploaa.own al b
  rg : RangeR L now
  n0 : 0 ≤ now
theorem RBoxAt.keepO {S : Nat → Prop} {w w' : World} {b : Nat} {al : Option Addr} {cl : Nat} {L : List RKept} {now : Int} (h : RBoxAt w b al cl L now) (k : Keeps S w w') (hn : ∀ x, boxS b al x → ¬ S x) : RBoxAt w' b al cl L now :=
  ⟨h.blk.keep k (hn _ (.inl rfl)), h.own.keepO k (fun _ hx => hn _ (.inr hx)), h.ap, h.rg, h.n0⟩
theorem RBoxAt.ext {w w' : World} {b : Nat} {al : Option Addr} {cl : Nat} {L : List RKept} {now : Int} (h : RBoxAt w b al cl L now) (k : Ext w w') : RBoxAt w' b al cl L now := h.keepO k fun _ _ => id
theorem RBoxAt.own_lt {w : World} {b : Nat} {al : Option Addr} {cl : Nat} {L : List RKept} {now : Int} (h : RBoxAt w b al cl L now) : ∀ x, boxS b al x → x < w.heap.size := by
  rintro x (rfl | hx)
  · exact h.blk.lt
  · exact h.own.own_lt x hx
theorem any_cv (L : List RKept) (h : Hint) : (L.map cv).any (isH h) = L.any (isR h) := by
  rw [List.any_map]; rfl
theorem NoB_cv {L : List RKept} {h : Hint} {k : Nat} (hn : NoB (isR h) L k) : NoB (isH h) (L.map cv) k := by
  intro j x hj hx
  rw [List.getElem?_map] at hx
  cases hL : L[j]? with
  | none => rw [hL] at hx; cases hx
  | some r => rw [hL] at hx; cases hx; exact hn j r hj hL
theorem get_cv {L : List RKept} {k : Nat} {r : RKept} (h : L[k]? = some r) : (L.map cv)[k]? = some (cv r) := by rw [List.getElem?_map, h]; rfl
theorem set_cv (L : List RKept) (k : Nat) (r : RKept) : (L.set k r).map cv = (L.map cv).set k (cv r) := List.map_set ..
theorem cv_off {r : RKept} : cv { r with sent := false } = ⟨r.hint, -1⟩ := rfl
theorem range_set {L : List RKept} {now : Int} {k : Nat} {r : RKept} (h : RangeR L now) (hr : hE r.hint = 0 ∧ (r.sent = true → 0 ≤ r.since ∧ r.since ≤ now)) : RangeR (L.set k r) now := by
  intro x hx
  rcases List.mem_or_eq_of_mem_set hx with hx | rfl
  · exact h x hx
  · exact hr
theorem range_push {L : List RKept} {now : Int} {r : RKept} (h : RangeR L now) (h0 : hE r.hint = 0) (hr : r.sent = false) : RangeR (L ++ [r]) now := by
  intro x hx
  rcases List.mem_append.1 hx with hx | hx
  · exact h x hx
  · simp only [List.mem_singleton] at hx; subst hx; refine ⟨h0, fun e => ?_⟩; rw [hr] at e; cases e
theorem range_del {L : List RKept} {now : Int} (h : RangeR L now) (k : Nat) : RangeR (L.take k ++ L.drop (k + 1)) now := by
  intro x hx
  rcases List.mem_append.1 hx with hx | hx
  · exact h x (List.mem_of_mem_take hx)
  · exact h x (List.mem_of_mem_drop hx)
theorem waits_cv {now : Int} {r : RKept} (h : r.sent = true → 0 ≤ r.since ∧ r.since ≤ now) : waitsB now (cv r) = (r.sent && decide (now - r.since < 1000)) := by
  unfold waitsB cv
  cases hs : r.sent with
  | true => have := h hs; simp [this.1]
  | false => simp
theorem mem_cv_past {L : List RKept} {now : Int} (h : RangeR L now) (h0 : 0 ≤ now) : Past (L.map cv) now := by
  intro k hk
  simp only [List.mem_map] at hk
  obtain ⟨r, hr, rfl⟩ := hk
  unfold cv
  simp only
  split
  · rename_i hs; exact ((h r hr).2 hs).2
  · omega
/-- behind four nothing more is told -/
theorem sndI_full {now n : Int} {l : List KeptM} : ∀ i, i ≤ l.length → 4 ≤ (sndI now n l i).c → ∀ j, i + j ≤ l.length → (sndI now n l (i + j)).T = (sndI now n l i).T ∧ (sndI now n l (i + j)).c = (sndI now n l i).c ∧ mixL now n l (i + j) = mixL now n l i := by
  intro i hi h4 j
  induction j with
  | zero => intro _; exact ⟨rfl, rfl, rfl⟩
  | succ j ih =>
    intro hj
    obtain ⟨h1, h2, h3⟩ := ih (by omega)
    have hx : l[i + j]? = some (l[i + j]'(by omega)) := by simp
    have e := (sndI_step (now := now) (n := n) hx).trans (sStep_no' (.inr (by omega)))
    refine ⟨?_, ?_, ?_⟩
    · rw [show i + (j + 1) = i + j + 1 from rfl, e]; exact h1
    · rw [show i + (j + 1) = i + j + 1 from rfl, e]; exact h2
    · rw [show i + (j + 1) = i + j + 1 from rfl, mixL_same hx (by rw [e])]; exact h3
theorem sndI_done {now n : Int} {l : List KeptM} {i : Nat} (hi : i ≤ l.length) (h : l.length ≤ i ∨ 4 ≤ (sndI now n l i).c) : (sndI now n l l.length).T = (sndI now n l i).T ∧ (sndI now n l l.length).L = mixL now n l i := by
  by_cases e : i = l.length
  · subst e; exact ⟨rfl, (mixL_end _ _ _).symm⟩
  · have := sndI_full (now := now) (n := n) i hi (by omega) (l.length - i) (by omega)
    rw [show i + (l.length - i) = l.length by omega, mixL_end] at this
    exact ⟨this.1, this.2.2⟩
theorem met_in (now : Int) (l : List KeptM) (up : List Int) : ∀ i, i ≤ up.length → ∀ n : Int, 0 ≤ n ∧ n < 8 → (dueI now l up i).met n.toNat = (up.take i).any (· == n) := by
  intro i
  induction i with
  | zero => intro _ n _; simp [dueI]
  | succ i ih =>
    intro hi n hn
    have h1 := ih (by omega) n hn
    rw [dueI_step (n := up[i]'(by omega)) (by simp), List.take_succ_eq_append_getElem (show i < up.length by omega), List.any_append, ← h1]
    by_cases hm : (up[i] < 0 ∨ 8 ≤ up[i]) ∨ (dueI now l up i).met up[i].toNat = true
    · rw [dStep_no hm]
      by_cases e : up[i] = n
      · rcases hm with hm | hm
        · omega
        · rw [e] at hm; simp [hm]
      · simp [e]
    · have hm' : ¬ (up[i] < 0 ∨ 8 ≤ up[i]) ∧ (dueI now l up i).met up[i].toNat = false := by
        refine ⟨fun h => hm (.inl h), ?_⟩
        cases h : (dueI now l up i).met up[i].toNat with
        | false => rfl
        | true => exact absurd (.inr h) hm
      rw [dStep_yes (by omega) hm'.2]
      simp only [updB]
      by_cases e : up[i] = n
      · subst e; simp
      · have : ¬ n.toNat = up[i].toNat := by omega
        simp [this, e]
theorem take_any_step {up : List Int} {i k : Nat} {x n : Int} (hk : k < i) (hx : up[k]? = some x) : ((up.take i).take (k + 1)).any (· == n) = (((up.take i).take k).any (· == n) || (x == n)) := by
  obtain ⟨h, rfl⟩ := List.getElem?_eq_some_iff.1 hx
  have hl : k < (up.take i).length := by simp; omega
  rw [List.take_succ_eq_append_getElem hl, List.any_append]
  simp
theorem countR {L : List RKept} {now : Int} (h : RangeR L now) (o : Int) : countB (L.map cv) o = ((L.countP (fun r => decide (r.hint.owner = o)) : Nat) : Int) := by
  unfold countB
  split
  · rename_i ho
    rw [List.countP_eq_zero.2]
    · rfl
    · intro r hr
      have := hE_range (h r hr).1
      simp only [decide_eq_true_eq]
      omega
  · unfold cntO
    rw [List.countP_map]
    congr 1
    refine List.countP_congr fun r _ => ?_
    show decide (r.hint.owner = ((o.toNat : Nat) : Int)) = true ↔ decide (r.hint.owner = o) = true
    rw [show ((o.toNat : Nat) : Int) = o by omega]
theorem countP_takeR {l : List RKept} {i : Nat} {x : RKept} (p : RKept → Bool) (h : l[i]? = some x) : (l.take (i + 1)).countP p = (l.take i).countP p + (if p x then 1 else 0) := by
  obtain ⟨hi, rfl⟩ := List.getElem?_eq_some_iff.1 h
  rw [List.take_succ_eq_append_getElem hi, List.countP_append, List.countP_singleton]
theorem cv_on {r : RKept} {now : Int} : cv { r with sent := true, since := now } = ⟨r.hint, now⟩ := rfl

theorem ty59 : Ty Try.prog 59 1 24 (.slice (none) (0) (0)) false := ty_of (by kernel_rfl) (by kernel_rfl)
theorem ty83 : Ty Try.prog 83 4 40 (.agg #[.int .i64 (0), .string (⟨#[]⟩), .bool (false), .int .i64 (0)]) true := ty_of (by kernel_rfl) (by kernel_rfl)
theorem en47 : Enters Try.prog 47 := enters_of Try.func47 rfl (by kernel_rfl)
theorem en48 : Enters Try.prog 48 := enters_of Try.func48 rfl (by kernel_rfl)

set_option maxHeartbeats 4000000 in
theorem faulty (h : Hint) (w : World) (hkl : h.key.size ≤ 4294967295) :
    Calls Try.prog 47 #[.agg #[.int .i64 ((h).owner), .string ((h).key)]] w (Ret (fun v w' => v = .int .i64 (hE h) ∧ Ext w w')) := by
  refine calls_run (n := 15) Try.func47 rfl rfl rfl ?_
  refine Run.seq ?_
  refine Run.region ?_
  refine RL.st rfl <| St1.box (v := .agg #[.int .i64 ((h).owner), .string ((h).key)]) rfl ?_
  intro b_1 w_2 hl_5 hb_4 K_3
  replace hb_4 : Blk w_2 b_1 [.int .i64 ((h).owner), .string ((h).key)] 42 := hb_4
  have : w.heap.size ≤ b_1 := hl_5
  clear hl_5
  have K0 := (K_3 : Ext w _)
  refine RL.val (x_assignI rfl) ?_
  refine RL.nil ?_
  refine Run.seq ?_
  refine Run.seq ?_
  refine Run.region ?_
  refine RL.val (x_fld (o' := 0) Try.underlying42 rfl ty3 rfl rfl rfl) ?_
  refine RL.val (x_ld (v := .int .i64 ((h).owner)) ty3 rfl rfl (hb_4.cl.field (i := 0) rfl)) ?_
  refine RL.val (x_ltI rfl rfl) ?_
  refine RL.val (x_moveB rfl) ?_
  refine RL.gval (wantedF rfl rfl rfl rfl) (fun hg => (x_fld (o' := 0) Try.underlying42 rfl ty3 rfl rfl rfl)) ?_
  refine RL.gval (wantedF rfl rfl rfl rfl) (fun hg => (x_ld (v := .int .i64 ((h).owner)) ty3 (gvr hg) rfl (hb_4.cl.field (i := 0) rfl))) ?_
  refine RL.gval (wantedF rfl rfl rfl rfl) (fun hg => (x_geI (gvr hg) rfl)) ?_
  refine RL.val (x_or rfl rfl rfl) ?_
  refine RL.nil ?_
  refine Run.cond rfl (fun hc10 => ?_) (fun hc10 => ?_)
  · try simp only [br] at hc10
    refine Run.seq ?_
    refine Run.region ?_
    refine RL.val (x_assignI rfl) ?_
    refine RL.nil ?_
    refine Run.ret1 (v := .int .i64 (1)) Try.func47 rfl rfl ?_
    exact ⟨_, rfl, by rw [hE1 hc10], K0⟩
  · try simp only [br] at hc10
    refine Run.skip ?_
    refine Run.seq ?_
    refine Run.seq ?_
    refine Run.region ?_
    refine RL.val (x_fld (o' := 1) Try.underlying42 rfl ty9 rfl rfl rfl) ?_
    refine RL.val (x_ld (v := .string ((h).key)) ty9 rfl rfl (hb_4.cl.field (i := 1) rfl)) ?_
    refine RL.st rfl <| St1.call (vals := [.string ((h).key)]) en40 rfl (refIsKey _ _ (by omega)) ?_
    rintro _ w_6 ⟨rfl, K_7⟩
    replace hb_4 := hb_4.ext K_7
    replace K0 := K0.ext K_7
    refine RL.val (x_not rfl) ?_
    refine RL.nil ?_
    refine Run.cond rfl (fun hc14 => ?_) (fun hc14 => ?_)
    · try simp only [br] at hc14
      refine Run.seq ?_
      refine Run.region ?_
      refine RL.val (x_assignI rfl) ?_
      refine RL.nil ?_
      refine Run.ret1 (v := .int .i64 (6)) Try.func47 rfl rfl ?_
      exact ⟨_, rfl, by rw [hE6 (by omega) hc14], K0⟩
    · try simp only [br] at hc14
      refine Run.skip ?_
      refine Run.seq ?_
      refine Run.region ?_
      refine RL.val (x_assignI rfl) ?_
      refine RL.nil ?_
      refine Run.ret1 (v := .int .i64 (0)) Try.func47 rfl rfl ?_
      exact ⟨_, rfl, by rw [hE0 (by omega) hc14], K0⟩

set_option maxHeartbeats 4000000 in
theorem findR (b : Nat) (al : Option Addr) (cl : Nat) (L : List RKept) (now : Int) (h : Hint) (w : World) (hb : Blk w b [.slice al L.length cl, .int .i64 now] 61) (hs : SlOf w al L) (hll : L.length ≤ 4294967295) :
    Calls Try.prog 48 #[.pointer (some ⟨b, 0, none⟩), .agg #[.int .i64 ((h).owner), .string ((h).key)]] w (Ret (fun v w' => v = .int .i64 (findI (isR h) L) ∧ Ext w w')) := by
  refine calls_run (n := 26) Try.func48 rfl rfl rfl ?_
  refine Run.seq ?_
  refine Run.region ?_
  refine RL.st rfl <| St1.box (v := .agg #[.int .i64 ((h).owner), .string ((h).key)]) rfl ?_
  intro b_1 w_2 hl_5 hb_4 K_3
  replace hb_4 : Blk w_2 b_1 [.int .i64 ((h).owner), .string ((h).key)] 42 := hb_4
  have ne_6 : b < b_1 := Nat.lt_of_lt_of_le hb.lt hl_5
  have : w.heap.size ≤ b_1 := hl_5
  clear hl_5
  replace hb := hb.ext K_3
  have K0 := (K_3 : Ext w _)
  refine RL.val (x_assignI rfl) ?_
  refine RL.nil ?_
  refine Run.seq ?_
  refine Run.seq ?_
  refine Run.region ?_
  refine RL.val (x_assignI rfl) ?_
  refine RL.nil ?_
  refine Run.block ?_
  refine Run.loop (ι := Nat) (fun i ρ' w' => Holds ρ' [(0, .pointer (some ⟨b, 0, none⟩)), (3, .pointer (some ⟨b_1, 0, none⟩)), (5, .int .i64 (((i : Nat) : Int)))] ∧ Ext w w' ∧ (Blk w' b [.slice (al) (L.length) (cl), .int .i64 (now)] 61) ∧ (Blk w' b_1 [.int .i64 ((h).owner), .string ((h).key)] 42) ∧ (i ≤ L.length) ∧ (NoB (isR h) L i)) (fun i => L.length - i) 0 ?_ ?_
  · refine ⟨⟨rfl, rfl, rfl, trivial⟩, K0, hb, hb_4, ?_, ?_⟩
    · omega
    · exact NoB.zero _ _
  clear hb hb_4
  clear K0
  rintro i ρ_9 w_7 ⟨hH_8, K0, hb, hb_4, hi, hno⟩ ih1
  obtain ⟨ρ₀, rfl⟩ := hH_8.ex
  clear hH_8
  refine Run.seq ?_
  refine Run.seq ?_
  refine Run.region ?_
  refine RL.val (x_moveI rfl) ?_
  refine RL.val (x_moveP rfl) ?_
  refine RL.val (x_nilCheck rfl) ?_
  refine RL.val (x_fld (o' := 0) Try.underlying61 rfl ty59 rfl rfl rfl) ?_
  refine RL.val (x_ld (v := .slice (al) (L.length) (cl)) ty59 rfl rfl (hb.cl.field (i := 0) rfl)) ?_
  refine RL.val (x_lenSl Try.underlying59 rfl) ?_
  refine RL.val (x_ltI rfl rfl) ?_
  refine RL.nil ?_
  refine Run.cond rfl (fun hc12 => ?_) (fun hc12 => ?_)
  · try simp only [br] at hc12
    refine Run.skip ?_
    refine Run.seq ?_
    refine Run.block ?_
    refine Run.seq ?_
    obtain ⟨b_12, o_13, x, hx, ha_14, hc_15⟩ := hs.el (i := i) (by omega)
    have hc_15_lt := hc_15.lt
    replace hc_15 := hc_15.ext K0
    refine Run.draw' (m := 10) (by kernel_rfl) rfl ?_
    intro w_10 K_11
    replace hb := hb.ext K_11
    replace hb_4 := hb_4.ext K_11
    replace hc_15 := hc_15.ext K_11
    replace K0 := K0.ext K_11
    refine RA.take (v := .pointer (some ⟨b, 0, none⟩)) 0 rfl (by kernel_rfl) rfl (by rintro _ rfl; exact (x_moveP rfl)) ?_
    refine RA.take (v := .pointer (some ⟨b, 0, none⟩)) 1 rfl (by kernel_rfl) rfl (by rintro _ rfl; exact (x_nilCheck rfl)) ?_
    refine RA.take (v := .pointer (some ⟨b, 0, none⟩)) 2 rfl (by kernel_rfl) rfl (by rintro _ rfl; exact (x_fld (o' := 0) Try.underlying61 rfl ty59 rfl rfl rfl)) ?_
    refine RA.take (v := .slice (al) (L.length) (cl)) 3 rfl (by kernel_rfl) rfl (by rintro _ rfl; exact (x_ld (v := .slice (al) (L.length) (cl)) ty59 rfl rfl (hb.cl.field (i := 0) rfl))) ?_
    refine RA.take (v := .int .i64 (((i : Nat) : Int))) 4 rfl (by kernel_rfl) rfl (by rintro _ rfl; exact (x_moveI rfl)) ?_
    refine RA.take (v := .pointer (some ⟨b_12, o_13 + i * 4, none⟩)) 5 rfl (by kernel_rfl) rfl (by rintro _ rfl; exact (x_idxN Try.underlying59 ty83 rfl rfl ha_14 (by omega))) ?_
    refine RA.take (v := .pointer (some ⟨b_12, o_13 + i * 4 + 0, none⟩)) 6 rfl (by kernel_rfl) rfl (by rintro _ rfl; exact (x_fld (o' := o_13 + i * 4 + 0) Try.underlying83 rfl ty42 rfl rfl rfl)) ?_
    refine RA.take (v := .agg #[.int .i64 (((x).hint).owner), .string (((x).hint).key)]) 7 rfl (by kernel_rfl) rfl (by rintro _ rfl; exact (x_lds (cs := #[.int .i64 (((x).hint).owner), .string (((x).hint).key)]) ty42 rfl rfl (hc_15.drop 0 2))) ?_
    refine RA.take (v := .agg #[.int .i64 ((h).owner), .string ((h).key)]) 8 rfl (by kernel_rfl) rfl (by rintro _ rfl; exact (x_lds (cs := #[.int .i64 ((h).owner), .string ((h).key)]) ty42 rfl rfl (hb_4.cl.drop 0 2))) ?_
    refine RA.take (v := .bool (decide ((x).hint = h))) 9 rfl (by kernel_rfl) rfl (by rintro _ rfl; exact (x_eqA (by kernel_rfl) rfl rfl (eq_Hint ((x).hint) h))) ?_
    refine RA.done (by kernel_rfl) ?_
    refine Run.cond rfl (fun hc24 => ?_) (fun hc24 => ?_)
    · try simp only [br] at hc24
      refine Run.seq ?_
      refine Run.region ?_
      refine RL.val (x_moveI rfl) ?_
      refine RL.val (x_assignI rfl) ?_
      refine RL.nil ?_
      refine Run.ret1 (v := .int .i64 (((i : Nat) : Int))) Try.func48 rfl rfl ?_
      exact ⟨_, rfl, by rw [findI_at hx (by simp only [isR, decide_eq_true_eq]; exact hc24) hno], K0⟩
    · try simp only [br] at hc24
      refine Run.skip ?_
      refine Run.inBlock ?_
      refine Run.region ?_
      refine RL.val (x_moveI rfl) ?_
      refine RL.val (litI (c := ((i + 1 : Nat) : Int)) (x_add rfl rfl (by omega) (by omega)) rfl) ?_
      refine RL.val (x_assignI rfl) ?_
      refine RL.nil ?_
      refine ih1 (i + 1) _ _ ?_ (by omega)
      refine ⟨⟨rfl, rfl, rfl, trivial⟩, K0, hb, hb_4, ?_, ?_⟩
      · omega
      · exact hno.step hx (by simp only [isR, decide_eq_false_iff_not]; exact hc24)
  · try simp only [br] at hc12
    refine Run.exit rfl ?_
    refine Run.seq ?_
    refine Run.region ?_
    refine RL.val (x_assignI rfl) ?_
    refine RL.nil ?_
    refine Run.ret1 (v := .int .i64 (-1)) Try.func48 rfl rfl ?_
    exact ⟨_, rfl, by rw [findI_no hno (by omega)], K0⟩

set_option maxHeartbeats 4000000 in
theorem hasR (b : Nat) (al : Option Addr) (cl : Nat) (L : List RKept) (now : Int) (h : Hint) (w : World) (hb : Blk w b [.slice al L.length cl, .int .i64 now] 61) (hs : SlOf w al L) (hll : L.length ≤ 4294967295) :
    Calls Try.prog 29 #[.pointer (some ⟨b, 0, none⟩), .agg #[.int .i64 ((h).owner), .string ((h).key)]] w (Ret (fun v w' => v = .bool ((L.map cv).any (isH h)) ∧ Ext w w')) := by
  refine calls_run (n := 9) Try.func29 rfl rfl rfl ?_
  refine Run.seq ?_
  refine Run.region ?_
  refine RL.st rfl <| St1.box (v := .agg #[.int .i64 ((h).owner), .string ((h).key)]) rfl ?_
  intro b_1 w_2 hl_5 hb_4 K_3
  replace hb_4 : Blk w_2 b_1 [.int .i64 ((h).owner), .string ((h).key)] 42 := hb_4
  have ne_6 : b < b_1 := Nat.lt_of_lt_of_le hb.lt hl_5
  have : w.heap.size ≤ b_1 := hl_5
  clear hl_5
  replace hb := hb.ext K_3
  have K0 := (K_3 : Ext w _)
  refine RL.val (x_assignB rfl) ?_
  refine RL.nil ?_
  refine Run.seq ?_
  refine Run.region ?_
  refine RL.val (x_moveP rfl) ?_
  refine RL.val (x_lds (cs := #[.int .i64 ((h).owner), .string ((h).key)]) ty42 rfl rfl (hb_4.cl.drop 0 2)) ?_
  refine RL.st rfl <| St1.call (vals := [.pointer (some ⟨b, 0, none⟩), .agg #[.int .i64 ((h).owner), .string ((h).key)]]) en48 rfl (findR _ _ _ L now h _ hb (hs.ext K0) (by omega)) ?_
  rintro _ w_7 ⟨rfl, K_8⟩
  replace hb := hb.ext K_8
  replace hb_4 := hb_4.ext K_8
  replace K0 := K0.ext K_8
  refine RL.val (x_geI rfl rfl) ?_
  refine RL.val (x_assignB rfl) ?_
  refine RL.nil ?_
  refine Run.ret1 (v := .bool (decide (0 ≤ (findI (isR h) L)))) Try.func29 rfl rfl ?_
  exact ⟨_, rfl, by rw [findI_ge, any_cv], K0⟩

set_option maxHeartbeats 4000000 in
theorem hintsR (b : Nat) (al : Option Addr) (cl : Nat) (L : List RKept) (now : Int)  (w : World) (hb : Blk w b [.slice al L.length cl, .int .i64 now] 61) (hs : SlOf w al L) (hll : L.length ≤ 4294967295) :
    Calls Try.prog 31 #[.pointer (some ⟨b, 0, none⟩)] w (Ret (fun v w' => ∃ a' c', v = .slice a' ((L.map cv).map (·.h)).length c' ∧ OwnSl w' 42 a' c' ((L.map cv).map (·.h)) ∧ (∀ b, own a' b → w.heap.size ≤ b) ∧ Ext w w')) := by
  refine calls_run (n := 26) Try.func31 rfl rfl rfl ?_
  refine Run.seq ?_
  refine Run.region ?_
  refine RL.val (x_assignSl rfl) ?_
  refine RL.nil ?_
  refine Run.seq ?_
  refine Run.region ?_
  refine RL.val (x_assignSl rfl) ?_
  refine RL.nil ?_
  refine Run.seq ?_
  refine Run.seq ?_
  refine Run.region ?_
  refine RL.val (x_assignI rfl) ?_
  refine RL.nil ?_
  refine Run.block ?_
  refine Run.loop (ι := Nat) (fun i ρ' w' => ∃ ah : Option Addr, ∃ ch : Nat, Holds ρ' [(0, .pointer (some ⟨b, 0, none⟩)), (3, .slice (ah) (((L.take i).map (fun r => r.hint)).length) (ch)), (4, .int .i64 (((i : Nat) : Int)))] ∧ Ext w w' ∧ (Blk w' b [.slice (al) (L.length) (cl), .int .i64 (now)] 61) ∧ (OwnSl w' 42 ah ch ((L.take i).map (fun r => r.hint))) ∧ (¬ own ah b) ∧ (∀ q_, own ah q_ → w.heap.size ≤ q_) ∧ (i ≤ L.length)) (fun i => L.length - i) 0 ?_ ?_
  · rw [List.take_zero, List.map_nil]
    have ho_6 := OwnSl.nil (α := Hint) w 42
    refine ⟨_, _, ⟨rfl, rfl, rfl, trivial⟩, (Keeps.refl _ w), hb, ho_6, (own_none _), (fun q_ h1 => absurd h1 (own_none q_)), ?_⟩
    · omega
  clear hb
  rintro i ρ_7 w_1 ⟨ah, ch, hH_2, K0, hb, ho_3, pr_4, pr_5, hi⟩ ih1
  obtain ⟨ρ₀, rfl⟩ := hH_2.ex
  clear hH_2
  refine Run.seq ?_
  refine Run.seq ?_
  refine Run.region ?_
  refine RL.val (x_moveI rfl) ?_
  refine RL.val (x_moveP rfl) ?_
  refine RL.val (x_nilCheck rfl) ?_
  refine RL.val (x_fld (o' := 0) Try.underlying61 rfl ty59 rfl rfl rfl) ?_
  refine RL.val (x_ld (v := .slice (al) (L.length) (cl)) ty59 rfl rfl (hb.cl.field (i := 0) rfl)) ?_
  refine RL.val (x_lenSl Try.underlying59 rfl) ?_
  refine RL.val (x_ltI rfl rfl) ?_
  refine RL.nil ?_
  refine Run.cond rfl (fun hc11 => ?_) (fun hc11 => ?_)
  · try simp only [br] at hc11
    refine Run.skip ?_
    refine Run.seq ?_
    refine Run.block ?_
    have hlen : ((L.take i).map (fun r => r.hint)).length ≤ i := by simp; omega
    refine Run.region ?_
    refine RL.val (x_moveSl rfl) ?_
    refine RL.val (x_moveP rfl) ?_
    refine RL.val (x_nilCheck rfl) ?_
    refine RL.val (x_fld (o' := 0) Try.underlying61 rfl ty59 rfl rfl rfl) ?_
    refine RL.val (x_ld (v := .slice (al) (L.length) (cl)) ty59 rfl rfl (hb.cl.field (i := 0) rfl)) ?_
    refine RL.val (x_moveI rfl) ?_
    obtain ⟨b_8, o_9, x, hx, ha_10, hc_11⟩ := hs.el (i := i) (by omega)
    have hc_11_lt := hc_11.lt
    replace hc_11 := hc_11.ext K0
    refine RL.val (x_idxN Try.underlying59 ty83 rfl rfl ha_10 (by omega)) ?_
    refine RL.val (x_fld (o' := o_9 + i * 4 + 0) Try.underlying83 rfl ty42 rfl rfl rfl) ?_
    refine RL.val (x_lds (cs := #[.int .i64 (((x).hint).owner), .string (((x).hint).key)]) ty42 rfl rfl (hc_11.drop 0 2)) ?_
    refine RL.st rfl <| St1.buildSlice ([(x).hint] : List Hint) Try.underlying35 ty42 rfl rfl (by first | decide | (simp [Enc.size])) ?_
    intro b_14 w_15 hl_18 ho_17 K_16
    have pr_19 : ¬ own (some ⟨b_14, 0, none⟩) b := notNew (ge_new hl_18) hb.lt
    have pr_20 : ∀ q_, own (some ⟨b_14, 0, none⟩) q_ → ¬ own ah q_ := apartNew (ge_new hl_18) ho_3.own_lt
    have pg_21 : ∀ q_, own (some ⟨b_14, 0, none⟩) q_ → w.heap.size ≤ q_ := fun q_ h => Nat.le_trans K0.size ((ge_new hl_18) q_ h)
    clear hl_18
    replace hb := hb.ext K_16
    replace ho_3 := ho_3.ext K_16
    replace hc_11 := hc_11.ext K_16
    replace K0 := K0.ext K_16
    refine RL.st rfl <| St1.append (xs := (L.take i).map (fun r => r.hint)) (ys := ([(x).hint] : List Hint)) Try.underlying35 ty42 rfl rfl rfl ho_3 ho_17.sl (by first | omega | (simp only [lr]; omega)) (by decide) ?_
    intro a_22 c_23 w_24 ho_25 K_26 hm_27 hrm_28
    have pr_29 : ¬ own a_22 b := hm_27.not pr_4 hb.lt
    have pr_30 : ∀ q_, own a_22 q_ → ¬ own (some ⟨b_14, 0, none⟩) q_ := hm_27.apart (fun q_ h1 h2 => pr_20 q_ h2 h1) ho_17.own_lt
    have pg_31 : ∀ q_, own a_22 q_ → w.heap.size ≤ q_ := hm_27.ge pr_5 K0.size
    replace hb := hb.keep K_26 pr_4
    replace hc_11 := hc_11.keep K_26 (fun h => absurd (pr_5 _ h) (by omega))
    replace ho_17 := ho_17.keepO K_26 pr_20
    replace K0 := K0.new K_26 pr_5
    clear hm_27
    clear hrm_28
    refine RL.val (x_assignSl rfl) ?_
    refine RL.nil ?_
    refine Run.inBlock ?_
    refine Run.region ?_
    refine RL.val (x_moveI rfl) ?_
    refine RL.val (litI (c := ((i + 1 : Nat) : Int)) (x_add rfl rfl (by omega) (by omega)) rfl) ?_
    refine RL.val (x_assignI rfl) ?_
    refine RL.nil ?_
    have e : (L.take (i + 1)).map (fun r => r.hint) = (L.take i).map (fun r => r.hint) ++ [x.hint] := by obtain ⟨h1, rfl⟩ := List.getElem?_eq_some_iff.1 hx; rw [List.take_succ_eq_append_getElem h1, List.map_append]; rfl
    refine ih1 (i + 1) _ _ ?_ (by omega)
    rw [e]
    refine ⟨_, _, ⟨rfl, rfl, rfl, trivial⟩, K0, hb, ho_25, pr_29, pg_31, ?_⟩
    · omega
  · try simp only [br] at hc11
    refine Run.exit rfl ?_
    refine Run.seq ?_
    refine Run.region ?_
    refine RL.val (x_moveSl rfl) ?_
    refine RL.val (x_assignSl rfl) ?_
    refine RL.nil ?_
    refine Run.ret1 (v := .slice (ah) (((L.take i).map (fun r => r.hint)).length) (ch)) Try.func31 rfl rfl ?_
    obtain rfl : i = L.length := by omega
    rw [List.take_length] at *
    have e : L.map (fun r => r.hint) = (L.map cv).map (·.h) := by rw [List.map_map]; rfl
    rw [e] at ho_3 ⊢
    exact ⟨_, rfl, ah, ch, rfl, ho_3, pr_5, K0⟩

set_option maxHeartbeats 4000000 in
theorem countR16 (b : Nat) (al : Option Addr) (cl : Nat) (L : List RKept) (now : Int) (o : Int) (w : World) (hb : Blk w b [.slice al L.length cl, .int .i64 now] 61) (hs : SlOf w al L) (hll : L.length ≤ 4294967295) (hrg : RangeR L now) :
    Calls Try.prog 30 #[.pointer (some ⟨b, 0, none⟩), .int .i64 (o)] w (Ret (fun v w' => v = .int .i64 (countB (L.map cv) o) ∧ Ext w w')) := by
  refine calls_run (n := 30) Try.func30 rfl rfl rfl ?_
  refine Run.seq ?_
  refine Run.region ?_
  refine RL.val (x_assignI rfl) ?_
  refine RL.nil ?_
  refine Run.seq ?_
  refine Run.region ?_
  refine RL.val (x_assignI rfl) ?_
  refine RL.nil ?_
  refine Run.seq ?_
  refine Run.seq ?_
  refine Run.region ?_
  refine RL.val (x_assignI rfl) ?_
  refine RL.nil ?_
  refine Run.block ?_
  refine Run.loop (ι := Nat) (fun i ρ' w' => Holds ρ' [(0, .pointer (some ⟨b, 0, none⟩)), (1, .int .i64 (o)), (5, .int .i64 ((((L.take i).countP (fun r : RKept => decide (r.hint.owner = o)) : Nat) : Int))), (6, .int .i64 (((i : Nat) : Int)))] ∧ Ext w w' ∧ (Blk w' b [.slice (al) (L.length) (cl), .int .i64 (now)] 61) ∧ (i ≤ L.length)) (fun i => L.length - i) 0 ?_ ?_
  · rw [List.take_zero, List.countP_nil]
    refine ⟨⟨rfl, rfl, rfl, rfl, trivial⟩, (Keeps.refl _ w), hb, ?_⟩
    · omega
  clear hb
  rintro i ρ_3 w_1 ⟨hH_2, K0, hb, hi⟩ ih1
  obtain ⟨ρ₀, rfl⟩ := hH_2.ex
  clear hH_2
  refine Run.seq ?_
  refine Run.seq ?_
  refine Run.region ?_
  refine RL.val (x_moveI rfl) ?_
  refine RL.val (x_moveP rfl) ?_
  refine RL.val (x_nilCheck rfl) ?_
  refine RL.val (x_fld (o' := 0) Try.underlying61 rfl ty59 rfl rfl rfl) ?_
  refine RL.val (x_ld (v := .slice (al) (L.length) (cl)) ty59 rfl rfl (hb.cl.field (i := 0) rfl)) ?_
  refine RL.val (x_lenSl Try.underlying59 rfl) ?_
  refine RL.val (x_ltI rfl rfl) ?_
  refine RL.nil ?_
  refine Run.cond rfl (fun hc13 => ?_) (fun hc13 => ?_)
  · try simp only [br] at hc13
    refine Run.skip ?_
    refine Run.seq ?_
    refine Run.block ?_
    refine Run.seq ?_
    refine Run.region ?_
    refine RL.val (x_moveP rfl) ?_
    refine RL.val (x_nilCheck rfl) ?_
    refine RL.val (x_fld (o' := 0) Try.underlying61 rfl ty59 rfl rfl rfl) ?_
    refine RL.val (x_ld (v := .slice (al) (L.length) (cl)) ty59 rfl rfl (hb.cl.field (i := 0) rfl)) ?_
    refine RL.val (x_moveI rfl) ?_
    obtain ⟨b_4, o_5, x, hx, ha_6, hc_7⟩ := hs.el (i := i) (by omega)
    have hc_7_lt := hc_7.lt
    replace hc_7 := hc_7.ext K0
    refine RL.val (x_idxN Try.underlying59 ty83 rfl rfl ha_6 (by omega)) ?_
    refine RL.val (x_fld (o' := o_5 + i * 4 + 0) Try.underlying83 rfl ty42 rfl rfl rfl) ?_
    refine RL.val (x_fld (o' := o_5 + i * 4 + 0 + 0) Try.underlying42 rfl ty3 rfl rfl rfl) ?_
    refine RL.val (x_ld ty3 rfl rfl (hc_7.field (i := 0) rfl)) ?_
    refine RL.val (x_moveI rfl) ?_
    refine RL.val (x_eqI rfl rfl) ?_
    refine RL.nil ?_
    refine Run.cond rfl (fun hc26 => ?_) (fun hc26 => ?_)
    · try simp only [br] at hc26
      have hcp := List.countP_le_length (p := (fun r : RKept => decide (r.hint.owner = o))) (l := L.take i)
      have hlt := List.length_take_le i L
      refine Run.region ?_
      refine RL.val (x_moveI rfl) ?_
      refine RL.val (litI (c := ((((L.take i).countP (fun r : RKept => decide (r.hint.owner = o))) + 1 : Nat) : Int)) (x_add rfl rfl (by omega) (by omega)) rfl) ?_
      refine RL.val (x_assignI rfl) ?_
      refine RL.nil ?_
      refine Run.inBlock ?_
      refine Run.region ?_
      refine RL.val (x_moveI rfl) ?_
      refine RL.val (litI (c := ((i + 1 : Nat) : Int)) (x_add rfl rfl (by omega) (by omega)) rfl) ?_
      refine RL.val (x_assignI rfl) ?_
      refine RL.nil ?_
      have e := countP_takeR (fun r : RKept => decide (r.hint.owner = o)) hx
      rw [if_pos (by simpa using hc26)] at e
      refine ih1 (i + 1) _ _ ?_ (by omega)
      rw [e]
      refine ⟨⟨rfl, rfl, rfl, rfl, trivial⟩, K0, hb, ?_⟩
      · omega
    · try simp only [br] at hc26
      refine Run.skip ?_
      refine Run.inBlock ?_
      refine Run.region ?_
      refine RL.val (x_moveI rfl) ?_
      refine RL.val (litI (c := ((i + 1 : Nat) : Int)) (x_add rfl rfl (by omega) (by omega)) rfl) ?_
      refine RL.val (x_assignI rfl) ?_
      refine RL.nil ?_
      have e := countP_takeR (fun r : RKept => decide (r.hint.owner = o)) hx
      rw [if_neg (by simpa using hc26)] at e
      refine ih1 (i + 1) _ _ ?_ (by omega)
      rw [e]
      refine ⟨⟨rfl, rfl, rfl, rfl, trivial⟩, K0, hb, ?_⟩
      · omega
  · try simp only [br] at hc13
    refine Run.exit rfl ?_
    refine Run.seq ?_
    refine Run.region ?_
    refine RL.val (x_moveI rfl) ?_
    refine RL.val (x_assignI rfl) ?_
    refine RL.nil ?_
    refine Run.ret1 (v := .int .i64 ((((L.take i).countP (fun r : RKept => decide (r.hint.owner = o)) : Nat) : Int))) Try.func30 rfl rfl ?_
    exact ⟨_, rfl, by rw [countR hrg, show i = L.length by omega, List.take_length], K0⟩

set_option maxHeartbeats 4000000 in
theorem putR (b : Nat) (al : Option Addr) (cl : Nat) (L : List RKept) (now : Int) (h : Hint) (w : World) (hB : RBoxAt w b al cl L now) (hll : L.length ≤ 4294967295) (hkl : h.key.size ≤ 4294967295) :
    Calls Try.prog 26 #[.pointer (some ⟨b, 0, none⟩), .agg #[.int .i64 ((h).owner), .string ((h).key)]] w (Ret (fun v w' => ∃ al' cl' L', v = .int .i64 (putE (L.map cv) h) ∧ RBoxAt w' b al' cl' L' now ∧ L'.map cv = putL (L.map cv) h ∧ MovedS w (boxS b al) (boxS b al') ∧ Keeps (boxS b al) w w')) := by
  obtain ⟨hb, ho, hap, hrg, hn0⟩ := hB
  refine calls_run (n := 41) Try.func26 rfl rfl rfl ?_
  refine Run.seq ?_
  refine Run.region ?_
  refine RL.st rfl <| St1.box (v := .agg #[.int .i64 ((h).owner), .string ((h).key)]) rfl ?_
  intro b_1 w_2 hl_5 hb_4 K_3
  replace hb_4 : Blk w_2 b_1 [.int .i64 ((h).owner), .string ((h).key)] 42 := hb_4
  have ne_6 : b < b_1 := Nat.lt_of_lt_of_le hb.lt hl_5
  have pr_7 : ¬ own al b_1 := fun h => absurd (ho.own_lt _ h) (by omega)
  have : w.heap.size ≤ b_1 := hl_5
  clear hl_5
  replace hb := hb.ext K_3
  replace ho := ho.ext K_3
  have K0 := (K_3 : Ext w _).to (S := (boxS b al))
  refine RL.val (x_assignI rfl) ?_
  refine RL.nil ?_
  refine Run.seq ?_
  refine Run.region ?_
  refine RL.val (x_lds (cs := #[.int .i64 ((h).owner), .string ((h).key)]) ty42 rfl rfl (hb_4.cl.drop 0 2)) ?_
  refine RL.st rfl <| St1.call (vals := [.agg #[.int .i64 ((h).owner), .string ((h).key)]]) en47 rfl (faulty h _ (by omega)) ?_
  rintro _ w_8 ⟨rfl, K_9⟩
  replace hb := hb.ext K_9
  replace ho := ho.ext K_9
  replace hb_4 := hb_4.ext K_9
  replace K0 := K0.ext K_9
  refine RL.val (x_assignI rfl) ?_
  refine RL.nil ?_
  refine Run.seq ?_
  refine Run.seq ?_
  refine Run.region ?_
  refine RL.val (x_moveI rfl) ?_
  refine RL.val (x_neI rfl rfl) ?_
  refine RL.nil ?_
  refine Run.cond rfl (fun hc10 => ?_) (fun hc10 => ?_)
  · try simp only [br] at hc10
    refine Run.seq ?_
    refine Run.region ?_
    refine RL.val (x_moveI rfl) ?_
    refine RL.val (x_assignI rfl) ?_
    refine RL.nil ?_
    refine Run.ret1 (v := .int .i64 (hE h)) Try.func26 rfl rfl ?_
    exact ⟨_, rfl, al, cl, L, by rw [putE_bad hc10], ⟨hb, ho, hap, hrg, hn0⟩, by rw [putL_bad hc10], MovedS.refl _ _, K0⟩
  · try simp only [br] at hc10
    refine Run.skip ?_
    refine Run.seq ?_
    refine Run.region ?_
    refine RL.val (x_moveP rfl) ?_
    refine RL.val (x_lds (cs := #[.int .i64 ((h).owner), .string ((h).key)]) ty42 rfl rfl (hb_4.cl.drop 0 2)) ?_
    refine RL.st rfl <| St1.call (vals := [.pointer (some ⟨b, 0, none⟩), .agg #[.int .i64 ((h).owner), .string ((h).key)]]) en48 rfl (findR _ _ _ L now h _ hb ho.sl (by omega)) ?_
    rintro _ w_10 ⟨rfl, K_11⟩
    replace hb := hb.ext K_11
    replace ho := ho.ext K_11
    replace hb_4 := hb_4.ext K_11
    replace K0 := K0.ext K_11
    refine RL.val (x_assignI rfl) ?_
    refine RL.nil ?_
    refine Run.seq ?_
    refine Run.seq ?_
    refine Run.region ?_
    refine RL.val (x_moveI rfl) ?_
    refine RL.val (x_geI rfl rfl) ?_
    refine RL.nil ?_
    refine Run.cond rfl (fun hc16 => ?_) (fun hc16 => ?_)
    · try simp only [br] at hc16
      obtain ⟨k, hk, hkl', hkp, hkn⟩ := findI_some (p := isR h) (xs := L) rfl hc16
      rw [hk]
      refine Run.seq ?_
      refine Run.region ?_
      refine RL.val (x_moveP rfl) ?_
      refine RL.val (x_nilCheck rfl) ?_
      refine RL.val (x_fld (o' := 0) Try.underlying61 rfl ty59 rfl rfl rfl) ?_
      refine RL.val (x_ld (v := .slice (al) (L.length) (cl)) ty59 rfl rfl (hb.cl.field (i := 0) rfl)) ?_
      refine RL.val (x_moveI rfl) ?_
      obtain ⟨b_12, o_13, x, hx, ha_14, hc_15⟩ := ho.sl.el (i := k) (by omega)
      refine RL.val (x_idxN Try.underlying59 ty83 rfl rfl ha_14 (by omega)) ?_
      refine RL.val (x_fld (o' := o_13 + k * 4 + 2) Try.underlying83 rfl ty4 rfl rfl rfl) ?_
      refine RL.st rfl <| St1.storeEl (v := .bool (false)) (off := 2) (i := k) ({ x with sent := false }) ty4 rfl rfl rfl (by simp [Value.cells, Value.oneCell']) ho ha_14 hx rfl (by decide) rfl ?_
      intro w_18 ho_20 K_19
      clear hc_15
      replace hb := hb.keep K_19 hap
      replace hb_4 := hb_4.keep K_19 pr_7
      replace K0 := K0.trans K_19 (fun x hlt hx => (fun x h _ => Or.inr h) x hx hlt)
      replace ho := ho_20
      clear ho_20
      refine RL.nil ?_
      refine Run.seq ?_
      refine Run.region ?_
      refine RL.val (x_assignI rfl) ?_
      refine RL.nil ?_
      refine Run.ret1 (v := .int .i64 (0)) Try.func26 rfl rfl ?_
      exact ⟨_, rfl, al, cl, _, by rw [putE_in hc10 (get_cv hx) (hkp x hx)], ⟨by rw [List.length_set]; exact hb, ho, hap, range_set hrg ⟨(hrg x (mem_of_at hx)).1, fun e => by cases e⟩, hn0⟩, by rw [putL_in hc10 (get_cv hx) (hkp x hx) (NoB_cv hkn), set_cv]; rfl, MovedS.refl _ _, K0⟩
    · try simp only [br] at hc16
      have hno : NoB (isH h) (L.map cv) (L.map cv).length := by rw [List.length_map]; exact NoB_cv (findI_none (p := isR h) (xs := L) rfl hc16)
      refine Run.skip ?_
      refine Run.seq ?_
      refine Run.seq ?_
      refine Run.region ?_
      refine RL.val (x_moveP rfl) ?_
      refine RL.val (x_nilCheck rfl) ?_
      refine RL.val (x_fld (o' := 0) Try.underlying61 rfl ty59 rfl rfl rfl) ?_
      refine RL.val (x_ld (v := .slice (al) (L.length) (cl)) ty59 rfl rfl (hb.cl.field (i := 0) rfl)) ?_
      refine RL.val (x_lenSl Try.underlying59 rfl) ?_
      refine RL.val (x_geI rfl rfl) ?_
      refine RL.nil ?_
      refine Run.cond rfl (fun hc29 => ?_) (fun hc29 => ?_)
      · try simp only [br] at hc29
        refine Run.seq ?_
        refine Run.region ?_
        refine RL.val (x_assignI rfl) ?_
        refine RL.nil ?_
        refine Run.ret1 (v := .int .i64 (7)) Try.func26 rfl rfl ?_
        exact ⟨_, rfl, al, cl, L, by rw [putE_full hc10 hno (by rw [List.length_map]; omega)], ⟨hb, ho, hap, hrg, hn0⟩, by rw [putL_full hc10 hno (by rw [List.length_map]; omega)], MovedS.refl _ _, K0⟩
      · try simp only [br] at hc29
        refine Run.skip ?_
        refine Run.seq ?_
        refine Run.drawT [11] (m := 12) (by kernel_rfl) rfl ?_
        intro w_21 K_22
        replace hb := hb.ext K_22
        replace ho := ho.ext K_22
        replace hb_4 := hb_4.ext K_22
        replace K0 := K0.ext K_22
        refine ⟨fun w' => Blk w' b [.slice (al) (L.length) (cl), .int .i64 (now)] 61 ∧ Blk w' b_1 [.int .i64 ((h).owner), .string ((h).key)] 42 ∧ True, ?_⟩
        refine RT.takeP (v := .pointer (some ⟨b, 0, none⟩)) 0 rfl (by kernel_rfl) (.inr ⟨hb, hb_4, trivial⟩) (fun _ => (x_moveP rfl)) ?_
        refine RT.takeP (v := .pointer (some ⟨b, 0, none⟩)) 1 rfl (by kernel_rfl) (.inr ⟨hb, hb_4, trivial⟩) (fun _ => (x_moveP rfl)) ?_
        refine RT.takeP (v := .pointer (some ⟨b, 0, none⟩)) 2 rfl (by kernel_rfl) (.inr ⟨hb, hb_4, trivial⟩) (fun _ => (x_nilCheck rfl)) ?_
        refine RT.takeP (v := .pointer (some ⟨b, 0, none⟩)) 3 rfl (by kernel_rfl) (.inr ⟨hb, hb_4, trivial⟩) (fun _ => (x_fld (o' := 0) Try.underlying61 rfl ty59 rfl rfl rfl)) ?_
        refine RT.take (v := .slice (al) (L.length) (cl)) 4 rfl (by kernel_rfl) ⟨hb, hb_4, trivial⟩ (by rintro _ ⟨hb, hb_4, -⟩; exact (x_ld (v := .slice (al) (L.length) (cl)) ty59 rfl rfl (hb.cl.field (i := 0) rfl))) ?_
        refine RT.take (v := .agg #[.int .i64 ((h).owner), .string ((h).key)]) 5 rfl (by kernel_rfl) ⟨hb, hb_4, trivial⟩ (by rintro _ ⟨hb, hb_4, -⟩; exact (x_lds (cs := #[.int .i64 ((h).owner), .string ((h).key)]) ty42 rfl rfl (hb_4.cl.drop 0 2))) ?_
        refine RT.takeP (v := .agg #[.int .i64 ((h).owner), .string ((h).key), .bool (false), .int .i64 (0)]) 6 rfl (by kernel_rfl) (.inr ⟨hb, hb_4, trivial⟩) (fun _ => (x_build (cells := #[.int .i64 ((h).owner), .string ((h).key), .bool (false), .int .i64 (0)]) (by kernel_rfl))) ?_
        refine RT.st 7 rfl (by kernel_rfl) rfl <| St1.buildSlice ([(⟨h, false, 0⟩ : RKept)] : List RKept) Try.underlying59 ty83 rfl rfl (by first | decide | (simp [Enc.size])) ?_
        intro b_23 w_24 hl_27 ho_26 K_25
        have pr_28 : ¬ own (some ⟨b_23, 0, none⟩) b := notNew (ge_new hl_27) hb.lt
        have pr_29 : ∀ q_, own (some ⟨b_23, 0, none⟩) q_ → ¬ own al q_ := apartNew (ge_new hl_27) ho.own_lt
        have pr_30 : ¬ own (some ⟨b_23, 0, none⟩) b_1 := notNew (ge_new hl_27) hb_4.lt
        have pg_31 : ∀ q_, own (some ⟨b_23, 0, none⟩) q_ → q_ < w.heap.size → (boxS b al) q_ := fun q_ h hlt => absurd (Nat.le_trans K0.size ((ge_new hl_27) q_ h)) (by omega)
        clear hl_27
        replace hb := hb.ext K_25
        replace ho := ho.ext K_25
        replace hb_4 := hb_4.ext K_25
        replace K0 := K0.ext K_25
        refine ⟨.inr ⟨hb, hb_4, trivial⟩, ?_⟩
        refine RT.st 8 rfl (by kernel_rfl) rfl <| St1.append (xs := L) (ys := ([(⟨h, false, 0⟩ : RKept)] : List RKept)) Try.underlying59 ty83 rfl rfl rfl ho ho_26.sl (by first | omega | (simp only [lr]; omega)) (by decide) ?_
        intro a_32 c_33 w_34 ho_35 K_36 hm_37 hrm_38
        have pr_39 : ¬ own a_32 b := hm_37.not hap hb.lt
        have pr_40 : ¬ own a_32 b_1 := hm_37.not pr_7 hb_4.lt
        have pr_41 : ∀ q_, own a_32 q_ → ¬ own (some ⟨b_23, 0, none⟩) q_ := hm_37.apart (fun q_ h1 h2 => pr_29 q_ h2 h1) ho_26.own_lt
        have pg_42 : ∀ q_, own a_32 q_ → q_ < w.heap.size → (boxS b al) q_ := hm_37.inS (fun x h _ => Or.inr h) K0.size
        replace hb := hb.keep K_36 hap
        replace hb_4 := hb_4.keep K_36 pr_7
        replace ho_26 := ho_26.keepO K_36 pr_29
        replace K0 := K0.trans K_36 (fun x hlt hx => (fun x h _ => Or.inr h) x hx hlt)
        clear hm_37
        clear hrm_38
        refine ⟨.inr ⟨hb, hb_4, trivial⟩, ?_⟩
        refine RT.takeP (v := .pointer (some ⟨b, 0, none⟩)) 9 rfl (by kernel_rfl) (.inr ⟨hb, hb_4, trivial⟩) (fun _ => (x_nilCheck rfl)) ?_
        refine RT.takeP (v := .pointer (some ⟨b, 0, none⟩)) 10 rfl (by kernel_rfl) (.inr ⟨hb, hb_4, trivial⟩) (fun _ => (x_fld (o' := 0) Try.underlying61 rfl ty59 rfl rfl rfl)) ?_
        refine RT.st 11 rfl (by kernel_rfl) rfl <| St1.store (v := .slice (a_32) ((L ++ ([(⟨h, false, 0⟩ : RKept)] : List RKept)).length) (c_33)) ty59 rfl rfl rfl (by simp [Value.cells, Value.oneCell']) hb (by simp) ?_
        intro w_43 hb_ K_44
        have hb' : Blk w_43 b [.slice (a_32) ((L ++ ([(⟨h, false, 0⟩ : RKept)] : List RKept)).length) (c_33), .int .i64 (now)] 61 := hb_
        clear hb_
        replace hb_4 := hb_4.keep K_44 (by simp only [one]; omega)
        replace ho_26 := ho_26.keepO K_44 (fun q_ hq_ eq_ => pr_28 (by simp only [one] at eq_; rw [← eq_]; exact hq_))
        replace ho_35 := ho_35.keepO K_44 (fun q_ hq_ eq_ => pr_39 (by simp only [one] at eq_; rw [← eq_]; exact hq_))
        replace K0 := K0.trans K_44 (fun x _ hx => by simp only [one] at hx; subst hx; exact (Or.inl rfl))
        replace hb := hb'
        clear hb'
        refine ⟨.inl (by kernel_rfl), ?_⟩
        refine RT.done (by kernel_rfl) ?_
        refine Run.seq ?_
        refine Run.region ?_
        refine RL.val (x_assignI rfl) ?_
        refine RL.nil ?_
        refine Run.ret1 (v := .int .i64 (0)) Try.func26 rfl rfl ?_
        exact ⟨_, rfl, a_32, c_33, _, by rw [putE_new hc10 hno (by rw [List.length_map]; omega)], ⟨hb, ho_35, pr_39, range_push hrg hc10 rfl, hn0⟩, by rw [putL_new hc10 hno (by rw [List.length_map]; omega), List.map_append]; rfl, boxMoved' pg_42, K0⟩

set_option maxHeartbeats 4000000 in
theorem dropR (b : Nat) (al : Option Addr) (cl : Nat) (L : List RKept) (now : Int) (h : Hint) (w : World) (hB : RBoxAt w b al cl L now) (hll : L.length ≤ 4294967295) (hkl : h.key.size ≤ 4294967295) :
    Calls Try.prog 27 #[.pointer (some ⟨b, 0, none⟩), .agg #[.int .i64 ((h).owner), .string ((h).key)]] w (Ret (fun v w' => ∃ al' cl' L', v = .int .i64 (dropE (L.map cv) h) ∧ RBoxAt w' b al' cl' L' now ∧ L'.map cv = dropL (L.map cv) h ∧ MovedS w (boxS b al) (boxS b al') ∧ Keeps (boxS b al) w w')) := by
  obtain ⟨hb, ho, hap, hrg, hn0⟩ := hB
  have hcap := ho.le_cap
  refine calls_run (n := 37) Try.func27 rfl rfl rfl ?_
  refine Run.seq ?_
  refine Run.region ?_
  refine RL.st rfl <| St1.box (v := .agg #[.int .i64 ((h).owner), .string ((h).key)]) rfl ?_
  intro b_1 w_2 hl_5 hb_4 K_3
  replace hb_4 : Blk w_2 b_1 [.int .i64 ((h).owner), .string ((h).key)] 42 := hb_4
  have ne_6 : b < b_1 := Nat.lt_of_lt_of_le hb.lt hl_5
  have pr_7 : ¬ own al b_1 := fun h => absurd (ho.own_lt _ h) (by omega)
  have : w.heap.size ≤ b_1 := hl_5
  clear hl_5
  replace hb := hb.ext K_3
  replace ho := ho.ext K_3
  have K0 := (K_3 : Ext w _).to (S := (boxS b al))
  refine RL.val (x_assignI rfl) ?_
  refine RL.nil ?_
  refine Run.seq ?_
  refine Run.region ?_
  refine RL.val (x_lds (cs := #[.int .i64 ((h).owner), .string ((h).key)]) ty42 rfl rfl (hb_4.cl.drop 0 2)) ?_
  refine RL.st rfl <| St1.call (vals := [.agg #[.int .i64 ((h).owner), .string ((h).key)]]) en47 rfl (faulty h _ (by omega)) ?_
  rintro _ w_8 ⟨rfl, K_9⟩
  replace hb := hb.ext K_9
  replace ho := ho.ext K_9
  replace hb_4 := hb_4.ext K_9
  replace K0 := K0.ext K_9
  refine RL.val (x_assignI rfl) ?_
  refine RL.nil ?_
  refine Run.seq ?_
  refine Run.seq ?_
  refine Run.region ?_
  refine RL.val (x_moveI rfl) ?_
  refine RL.val (x_neI rfl rfl) ?_
  refine RL.nil ?_
  refine Run.cond rfl (fun hc11 => ?_) (fun hc11 => ?_)
  · try simp only [br] at hc11
    refine Run.seq ?_
    refine Run.region ?_
    refine RL.val (x_moveI rfl) ?_
    refine RL.val (x_assignI rfl) ?_
    refine RL.nil ?_
    refine Run.ret1 (v := .int .i64 (hE h)) Try.func27 rfl rfl ?_
    exact ⟨_, rfl, al, cl, L, by rw [dropE_bad hc11], ⟨hb, ho, hap, hrg, hn0⟩, by rw [dropL_bad hc11], MovedS.refl _ _, K0⟩
  · try simp only [br] at hc11
    refine Run.skip ?_
    refine Run.seq ?_
    refine Run.region ?_
    refine RL.val (x_moveP rfl) ?_
    refine RL.val (x_lds (cs := #[.int .i64 ((h).owner), .string ((h).key)]) ty42 rfl rfl (hb_4.cl.drop 0 2)) ?_
    refine RL.st rfl <| St1.call (vals := [.pointer (some ⟨b, 0, none⟩), .agg #[.int .i64 ((h).owner), .string ((h).key)]]) en48 rfl (findR _ _ _ L now h _ hb ho.sl (by omega)) ?_
    rintro _ w_10 ⟨rfl, K_11⟩
    replace hb := hb.ext K_11
    replace ho := ho.ext K_11
    replace hb_4 := hb_4.ext K_11
    replace K0 := K0.ext K_11
    refine RL.val (x_assignI rfl) ?_
    refine RL.nil ?_
    refine Run.seq ?_
    refine Run.seq ?_
    refine Run.region ?_
    refine RL.val (x_moveI rfl) ?_
    refine RL.val (x_ltI rfl rfl) ?_
    refine RL.nil ?_
    refine Run.cond rfl (fun hc17 => ?_) (fun hc17 => ?_)
    · try simp only [br] at hc17
      have hno : NoB (isH h) (L.map cv) (L.map cv).length := by rw [List.length_map]; exact NoB_cv (findI_none (p := isR h) (xs := L) rfl hc17)
      refine Run.seq ?_
      refine Run.region ?_
      refine RL.val (x_assignI rfl) ?_
      refine RL.nil ?_
      refine Run.ret1 (v := .int .i64 (160)) Try.func27 rfl rfl ?_
      exact ⟨_, rfl, al, cl, L, by rw [dropE_no hc11 hno], ⟨hb, ho, hap, hrg, hn0⟩, by rw [dropL_no hc11 hno], MovedS.refl _ _, K0⟩
    · try simp only [br] at hc17
      obtain ⟨k, hk, hkl', hkp, hkn⟩ := findI_some (p := isR h) (xs := L) rfl hc17
      rw [hk]
      obtain ⟨x, hx⟩ : ∃ x, L[k]? = some x := ⟨L[k], by simp⟩
      refine Run.skip ?_
      refine Run.seq ?_
      refine Run.region ?_
      refine RL.val (x_moveP rfl) ?_
      refine RL.val (x_nilCheck rfl) ?_
      refine RL.val (x_fld (o' := 0) Try.underlying61 rfl ty59 rfl rfl rfl) ?_
      refine RL.val (x_ld (v := .slice (al) (L.length) (cl)) ty59 rfl rfl (hb.cl.field (i := 0) rfl)) ?_
      refine RL.val (x_moveI rfl) ?_
      refine RL.val (litSl (m' := (L.take k).length) (x_sliceTo Try.underlying59 ty83 rfl rfl (by omega)) (by rw [List.length_take]; omega)) ?_
      have ho_12 := OwnSl.nil (α := RKept) w_10 83
      refine RL.st rfl <| St1.append (xs := ([] : List RKept)) (ys := L.take k) Try.underlying59 ty83 rfl rfl rfl ho_12 (ho.sl.take k) (by simp only [List.length_nil, List.length_take]; omega) (by decide) ?_
      intro a_13 c_14 w_15 ho_16 K_17 hm_18 hrm_19
      have pr_20 : ¬ own a_13 b := hm_18.not (own_none _) hb.lt
      have pr_21 : ∀ q_, own a_13 q_ → ¬ own al q_ := hm_18.apart (fun q_ h1 _ => own_none q_ h1) ho.own_lt
      have pr_22 : ¬ own a_13 b_1 := hm_18.not (own_none _) hb_4.lt
      have pg_23 : ∀ q_, own a_13 q_ → q_ < w.heap.size → (boxS b al) q_ := hm_18.inS (fun q_ h1 _ => absurd h1 (own_none q_)) K0.size
      replace hb := hb.keep K_17 (own_none _)
      replace ho := ho.keepO K_17 (fun q_ h1 h2 => (fun q_ h1 _ => own_none q_ h1) q_ h2 h1)
      replace hb_4 := hb_4.keep K_17 (own_none _)
      replace K0 := K0.trans K_17 (fun x hlt hx => (fun q_ h1 _ => absurd h1 (own_none q_)) x hx hlt)
      clear hm_18
      clear hrm_19
      refine RL.val (x_assignSl rfl) ?_
      refine RL.nil ?_
      refine Run.seq ?_
      refine Run.region ?_
      refine RL.val (x_moveP rfl) ?_
      refine RL.val (x_moveSl rfl) ?_
      refine RL.val (x_moveP rfl) ?_
      refine RL.val (x_nilCheck rfl) ?_
      refine RL.val (x_fld (o' := 0) Try.underlying61 rfl ty59 rfl rfl rfl) ?_
      refine RL.val (x_ld (v := .slice (al) (L.length) (cl)) ty59 rfl rfl (hb.cl.field (i := 0) rfl)) ?_
      refine RL.val (x_moveI rfl) ?_
      refine RL.val (litI (c := ((k + 1 : Nat) : Int)) (x_add rfl rfl (by omega) (by omega)) rfl) ?_
      refine RL.val (x_sliceFrom (xs := L) Try.underlying59 ty83 rfl rfl (by omega)) ?_
      refine RL.st rfl <| St1.append (xs := ([] : List RKept) ++ L.take k) (ys := L.drop (k + 1)) Try.underlying59 ty83 rfl rfl rfl ho_16 (ho.sl.from (k + 1) cl (ho.le_cap)) (by simp only [List.length_append, List.length_nil, List.length_take, List.length_drop]; omega) (by decide) ?_
      intro a_24 c_25 w_26 ho_27 K_28 hm_29 hrm_30
      have pr_31 : ¬ own a_24 b := hm_29.not pr_20 hb.lt
      have pr_32 : ∀ q_, own a_24 q_ → ¬ own al q_ := hm_29.apart pr_21 ho.own_lt
      have pr_33 : ¬ own a_24 b_1 := hm_29.not pr_22 hb_4.lt
      have pg_34 : ∀ q_, own a_24 q_ → q_ < w.heap.size → (boxS b al) q_ := hm_29.inS pg_23 K0.size
      replace hb := hb.keep K_28 pr_20
      replace ho := ho.keepO K_28 (fun q_ h1 h2 => pr_21 q_ h2 h1)
      replace hb_4 := hb_4.keep K_28 pr_22
      replace K0 := K0.trans K_28 (fun x hlt hx => pg_23 x hx hlt)
      clear hm_29
      clear hrm_30
      refine RL.val (x_nilCheck rfl) ?_
      refine RL.val (x_fld (o' := 0) Try.underlying61 rfl ty59 rfl rfl rfl) ?_
      refine RL.st rfl <| St1.store (v := .slice (a_24) (((([] : List RKept) ++ L.take k) ++ L.drop (k + 1)).length) (c_25)) ty59 rfl rfl rfl (by simp [Value.cells, Value.oneCell']) hb (by simp) ?_
      intro w_35 hb_ K_36
      have hb' : Blk w_35 b [.slice (a_24) (((([] : List RKept) ++ L.take k) ++ L.drop (k + 1)).length) (c_25), .int .i64 (now)] 61 := hb_
      clear hb_
      replace ho := ho.keepO K_36 (fun q_ hq_ eq_ => hap (by simp only [one] at eq_; rw [← eq_]; exact hq_))
      replace hb_4 := hb_4.keep K_36 (by simp only [one]; omega)
      replace ho_27 := ho_27.keepO K_36 (fun q_ hq_ eq_ => pr_31 (by simp only [one] at eq_; rw [← eq_]; exact hq_))
      replace K0 := K0.trans K_36 (fun x _ hx => by simp only [one] at hx; subst hx; exact (Or.inl rfl))
      replace hb := hb'
      clear hb'
      refine RL.nil ?_
      refine Run.seq ?_
      refine Run.region ?_
      refine RL.val (x_assignI rfl) ?_
      refine RL.nil ?_
      refine Run.ret1 (v := .int .i64 (0)) Try.func27 rfl rfl ?_
      exact ⟨_, rfl, a_24, c_25, _, by rw [dropE_in hc11 (get_cv hx) (hkp x hx)], ⟨hb, ho_27, pr_31, range_del hrg k, hn0⟩, by rw [dropL_in hc11 (get_cv hx) (hkp x hx) (NoB_cv hkn), List.nil_append, List.map_append, List.map_take, List.map_drop], boxMoved' pg_34, K0⟩

end Go.Proofs.Ytlediffjclploaa
