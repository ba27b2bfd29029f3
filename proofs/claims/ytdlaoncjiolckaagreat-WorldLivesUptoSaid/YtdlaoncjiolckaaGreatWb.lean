/-
  Layer 22's walks, first part: messages that are the same; copies.
-/
import Derived.Test.YtdlaoncjiolckaaGreatRows
import Derived.Test.YtdlaoncjiolckaaGreatWa
namespace Go.Proofs.YtdlaoncjiolckaaGreat
attribute [local irreducible] St1 RL RA RT RT1 Run

open Wa
section
variable {a b : MV} {s t : Six} {w : World}
def sameCtx (a b : MV) : Bool := decide (a.mrk = b.mrk) && decide (a.cl = b.cl)
def sameCart (a b : MV) : Bool := decide (a.ent = b.ent) && sameCtx a b
def sameRing (a b : MV) : Bool := (((decide (a.parts = b.parts) && decide (a.copies = b.copies)) && decide (a.spots = b.spots)) && decide (a.mem = b.mem))
theorem same_no (h : ((((((((a.kind ≠ b.kind) ∨ (a.frm ≠ b.frm)) ∨ (a.to ≠ b.to)) ∨ (a.req ≠ b.req)) ∨ (a.key ≠ b.key)) ∨ (a.owner ≠ b.owner)) ∨ (a.part ≠ b.part)) ∨ (a.n ≠ b.n))) : decide (a = b) = false := decide_eq_false fun e => by subst e; simp at h
theorem same_yes (h1 : a.kind = b.kind) (h2 : a.frm = b.frm) (h3 : a.to = b.to) (h4 : a.req = b.req) (h5 : a.key = b.key) (h6 : a.owner = b.owner) (h7 : a.part = b.part) (h8 : a.n = b.n) :
    (((sameCart a b && sameRing a b) && decide (a.pe = b.pe)) && decide (a.su = b.su)) = decide (a = b) := by
  rw [Bool.eq_iff_iff]
  simp only [sameCart, sameCtx, sameRing, Bool.and_eq_true, decide_eq_true_eq, MV.iff]
  constructor
  · rintro ⟨⟨⟨⟨q1, q2, q3⟩, ⟨⟨q4, q5⟩, q6⟩, q7⟩, q8⟩, q9⟩
    exact ⟨h1, h2, h3, h4, h5, h6, h7, h8, q4, q5, q6, q1, q2, q3, q7, q8, q9⟩
  · rintro ⟨_, _, _, _, _, _, _, _, q4, q5, q6, q1, q2, q3, q7, q8, q9⟩
    exact ⟨⟨⟨⟨q1, q2, q3⟩, ⟨⟨q4, q5⟩, q6⟩, q7⟩, q8⟩, q9⟩
end

theorem ty44 : Ty Tryz.prog 44 1 24 (.slice (none) (0) (0)) false := ty_of (by kernel_rfl) (by kernel_rfl)
theorem ty45 : Ty Tryz.prog 45 1 24 (.slice (none) (0) (0)) false := ty_of (by kernel_rfl) (by kernel_rfl)
theorem ty46 : Ty Tryz.prog 46 1 24 (.slice (none) (0) (0)) false := ty_of (by kernel_rfl) (by kernel_rfl)
theorem ty48 : Ty Tryz.prog 48 2 48 (.agg #[.slice (none) (0) (0), .slice (none) (0) (0)]) true := ty_of (by kernel_rfl) (by kernel_rfl)
theorem ty50 : Ty Tryz.prog 50 3 72 (.agg #[.slice (none) (0) (0), .slice (none) (0) (0), .slice (none) (0) (0)]) true := ty_of (by kernel_rfl) (by kernel_rfl)
theorem ty51 : Ty Tryz.prog 51 1 24 (.slice (none) (0) (0)) false := ty_of (by kernel_rfl) (by kernel_rfl)
theorem ty53 : Ty Tryz.prog 53 4 48 (.agg #[.int .i64 (0), .int .i64 (0), .int .i64 (0), .slice (none) (0) (0)]) true := ty_of (by kernel_rfl) (by kernel_rfl)
theorem ty54 : Ty Tryz.prog 54 1 24 (.slice (none) (0) (0)) false := ty_of (by kernel_rfl) (by kernel_rfl)
theorem ty55 : Ty Tryz.prog 55 1 24 (.slice (none) (0) (0)) false := ty_of (by kernel_rfl) (by kernel_rfl)
theorem ty57 : Ty Tryz.prog 57 17 240 (.agg #[.int .i64 (0), .int .i64 (0), .int .i64 (0), .int .i64 (0), .string (⟨#[]⟩), .slice (none) (0) (0), .slice (none) (0) (0), .slice (none) (0) (0), .int .i64 (0), .int .i64 (0), .int .i64 (0), .int .i64 (0), .int .i64 (0), .int .i64 (0), .slice (none) (0) (0), .slice (none) (0) (0), .slice (none) (0) (0)]) true := ty_of (by kernel_rfl) (by kernel_rfl)
theorem ty85 : Ty Tryz.prog 85 4 32 (.agg #[.int .i64 (0), .int .i64 (0), .int .i64 (0), .int .i64 (0)]) true := ty_of (by kernel_rfl) (by kernel_rfl)
theorem ty87 : Ty Tryz.prog 87 3 24 (.agg #[.int .i64 (0), .int .i64 (0), .int .i64 (0)]) true := ty_of (by kernel_rfl) (by kernel_rfl)
theorem ty90 : Ty Tryz.prog 90 3 32 (.agg #[.int .i64 (0), .string (⟨#[]⟩), .int .u64 (0)]) true := ty_of (by kernel_rfl) (by kernel_rfl)
theorem ty118 : Ty Tryz.prog 118 6 56 (.agg #[.string (⟨#[]⟩), .int .i64 (0), .int .i64 (0), .int .i64 (0), .int .i64 (0), .int .u64 (0)]) true := ty_of (by kernel_rfl) (by kernel_rfl)
theorem ty120 : Ty Tryz.prog 120 3 24 (.agg #[.int .i64 (0), .int .i64 (0), .int .i64 (0)]) true := ty_of (by kernel_rfl) (by kernel_rfl)
theorem en47 : Enters Tryz.prog 47 := enters_of Tryz.func47 rfl (by kernel_rfl)
theorem en48 : Enters Tryz.prog 48 := enters_of Tryz.func48 rfl (by kernel_rfl)
theorem en49 : Enters Tryz.prog 49 := enters_of Tryz.func49 rfl (by kernel_rfl)
theorem en50 : Enters Tryz.prog 50 := enters_of Tryz.func50 rfl (by kernel_rfl)
theorem en63 : Enters Tryz.prog 63 := enters_of Tryz.func63 rfl (by kernel_rfl)
theorem en64 : Enters Tryz.prog 64 := enters_of Tryz.func64 rfl (by kernel_rfl)
theorem en65 : Enters Tryz.prog 65 := enters_of Tryz.func65 rfl (by kernel_rfl)
theorem en66 : Enters Tryz.prog 66 := enters_of Tryz.func66 rfl (by kernel_rfl)
theorem en67 : Enters Tryz.prog 67 := enters_of Tryz.func67 rfl (by kernel_rfl)
theorem en68 : Enters Tryz.prog 68 := enters_of Tryz.func68 rfl (by kernel_rfl)
theorem en71 : Enters Tryz.prog 71 := enters_of Tryz.func71 rfl (by kernel_rfl)
theorem en72 : Enters Tryz.prog 72 := enters_of Tryz.func72 rfl (by kernel_rfl)
theorem en73 : Enters Tryz.prog 73 := enters_of Tryz.func73 rfl (by kernel_rfl)
theorem en79 : Enters Tryz.prog 79 := enters_of Tryz.func79 rfl (by kernel_rfl)
theorem en80 : Enters Tryz.prog 80 := enters_of Tryz.func80 rfl (by kernel_rfl)

set_option maxRecDepth 100000 in
set_option maxHeartbeats 4000000 in
theorem equal_ent (a : Option Addr) (xs : List EntryC) (c : Nat) (d : Option Addr) (ys : List EntryC) (e : Nat) (w : World) (hs : SlOf w a xs) (ht : SlOf w d ys) (hl : xs.length ≤ 4294967295) :
    Calls Tryz.prog 71 #[.slice (a) (xs.length) (c), .slice (d) (ys.length) (e)] w (Ret (fun v w' => v = .bool (decide (xs = ys)) ∧ Ext w w')) := by
  refine calls_run (n := 26) Tryz.func71 rfl rfl rfl ?_
  refine Run.seq ?_
  refine Run.region ?_
  refine RL.val (x_assignB rfl) ?_
  refine RL.nil ?_
  refine Run.seq ?_
  refine Run.seq ?_
  refine Run.region ?_
  refine RL.val (x_moveSl rfl) ?_
  refine RL.val (x_lenSl Tryz.underlying44 rfl) ?_
  refine RL.val (x_moveSl rfl) ?_
  refine RL.val (x_lenSl Tryz.underlying44 rfl) ?_
  refine RL.val (x_neI rfl rfl) ?_
  refine RL.nil ?_
  refine Run.cond rfl (fun hc10 => ?_) (fun hc10 => ?_)
  · try simp only [br] at hc10
    refine Run.seq ?_
    refine Run.region ?_
    refine RL.val (x_assignB rfl) ?_
    refine RL.nil ?_
    refine Run.ret1 (v := .bool (false)) Tryz.func71 rfl rfl ?_
    exact ⟨_, rfl, by rw [decide_eq_false (fun h => hc10 (by rw [h]))], (Keeps.refl _ w)⟩
  · try simp only [br] at hc10
    have hlen : xs.length = ys.length := by omega
    refine Run.skip ?_
    refine Run.seq ?_
    refine Run.seq ?_
    refine Run.region ?_
    refine RL.val (x_moveSl rfl) ?_
    refine RL.val (x_lenSl Tryz.underlying44 rfl) ?_
    refine RL.val (x_moveI rfl) ?_
    refine RL.nil ?_
    refine Run.block ?_
    refine Run.loop (ι := Nat) (fun i ρ' w' => Holds ρ' [(0, .slice (a) (xs.length) (c)), (1, .slice (d) (ys.length) (e)), (12, .int .i64 (((xs.length : Nat) : Int))), (13, .int .i64 (((i : Nat) : Int)))] ∧ Ext w w' ∧ (i ≤ xs.length) ∧ (SameB xs ys i)) (fun i => xs.length - i) 0 ?_ ?_
    · refine ⟨⟨rfl, rfl, rfl, rfl, trivial⟩, (Keeps.refl _ w), ?_, ?_⟩
      · omega
      · exact SameB.zero _ _
    rintro i ρ_3 w_1 ⟨hH_2, K0, hi, hno⟩ ih1
    obtain ⟨ρ₀, rfl⟩ := hH_2.ex
    clear hH_2
    refine Run.seq ?_
    refine Run.region ?_
    refine RL.val (x_ltI rfl rfl) ?_
    refine RL.nil ?_
    refine Run.seq ?_
    refine Run.cond rfl (fun hc14 => ?_) (fun hc14 => ?_)
    · try simp only [br] at hc14
      refine Run.skip ?_
      refine Run.seq ?_
      refine Run.block ?_
      refine Run.seq ?_
      refine Run.region ?_
      refine RL.val (x_moveI rfl) ?_
      refine RL.val (x_assignI rfl) ?_
      refine RL.nil ?_
      refine Run.seq ?_
      obtain ⟨b_6, o_7, x, hx, ha_8, hc_9⟩ := hs.el (i := i) (by first | omega | (simp only [List.length_set]; omega))
      have hc_9_lt := hc_9.lt
      replace hc_9 := hc_9.ext K0
      obtain ⟨b_12, o_13, y, hy, ha_14, hc_15⟩ := ht.el (i := i) (by first | omega | (simp only [List.length_set]; omega))
      have hc_15_lt := hc_15.lt
      replace hc_15 := hc_15.ext K0
      refine Run.draw' (m := 9) (by kernel_rfl) rfl ?_
      intro w_4 K_5
      replace hc_9 := hc_9.ext K_5
      replace hc_15 := hc_15.ext K_5
      replace K0 := K0.ext K_5
      refine RA.take (v := .slice (a) (xs.length) (c)) 0 rfl (by kernel_rfl) rfl (by rintro _ rfl; exact (x_moveSl rfl)) ?_
      refine RA.take (v := .int .i64 (((i : Nat) : Int))) 1 rfl (by kernel_rfl) rfl (by rintro _ rfl; exact (x_moveI rfl)) ?_
      refine RA.take (v := .pointer (some ⟨b_6, o_7 + i * 6, none⟩)) 2 rfl (by kernel_rfl) rfl (by rintro _ rfl; exact (x_idxN Tryz.underlying44 ty118 rfl rfl ha_8 (by first | omega | (simp only [List.length_set]; omega)))) ?_
      refine RA.take (v := .agg #[.string ((x).item), .int .i64 (((x).dot).node), .int .i64 (((x).dot).life), .int .i64 (((x).dot).count), .int .i64 ((x).qty), .int .u64 ((x).price)]) 3 rfl (by kernel_rfl) rfl (by rintro _ rfl; exact (x_ldV (v := .agg #[.string ((x).item), .int .i64 (((x).dot).node), .int .i64 (((x).dot).life), .int .i64 (((x).dot).count), .int .i64 ((x).qty), .int .u64 ((x).price)]) (y := x) ty118 rfl hc_9 rfl)) ?_
      refine RA.take (v := .slice (d) (ys.length) (e)) 4 rfl (by kernel_rfl) rfl (by rintro _ rfl; exact (x_moveSl rfl)) ?_
      refine RA.take (v := .int .i64 (((i : Nat) : Int))) 5 rfl (by kernel_rfl) rfl (by rintro _ rfl; exact (x_moveI rfl)) ?_
      refine RA.take (v := .pointer (some ⟨b_12, o_13 + i * 6, none⟩)) 6 rfl (by kernel_rfl) rfl (by rintro _ rfl; exact (x_idxN Tryz.underlying44 ty118 rfl rfl ha_14 (by first | omega | (simp only [List.length_set]; omega)))) ?_
      refine RA.take (v := .agg #[.string ((y).item), .int .i64 (((y).dot).node), .int .i64 (((y).dot).life), .int .i64 (((y).dot).count), .int .i64 ((y).qty), .int .u64 ((y).price)]) 7 rfl (by kernel_rfl) rfl (by rintro _ rfl; exact (x_ldV (v := .agg #[.string ((y).item), .int .i64 (((y).dot).node), .int .i64 (((y).dot).life), .int .i64 (((y).dot).count), .int .i64 ((y).qty), .int .u64 ((y).price)]) (y := y) ty118 rfl hc_15 rfl)) ?_
      refine RA.take (v := .bool (!decide (x = y))) 8 rfl (by kernel_rfl) rfl (by rintro _ rfl; exact (x_neA (by kernel_rfl) rfl rfl (eq_EntryC x y))) ?_
      refine RA.done (by kernel_rfl) ?_
      refine Run.cond rfl (fun hc24 => ?_) (fun hc24 => ?_)
      · try simp only [br] at hc24
        refine Run.seq ?_
        refine Run.region ?_
        refine RL.val (x_assignB rfl) ?_
        refine RL.nil ?_
        refine Run.ret1 (v := .bool (false)) Tryz.func71 rfl rfl ?_
        exact ⟨_, rfl, by rw [decide_eq_false (ne_of_at hx hy hc24)], K0⟩
      · try simp only [br] at hc24
        refine Run.skip ?_
        refine Run.inBlock ?_
        refine Run.region ?_
        refine RL.val (litI (c := ((i + 1 : Nat) : Int)) (x_add rfl rfl (by omega) (by omega)) rfl) ?_
        refine RL.val (x_moveI rfl) ?_
        refine RL.nil ?_
        refine ih1 (i + 1) _ _ ?_ (by omega)
        refine ⟨⟨rfl, rfl, rfl, rfl, trivial⟩, K0, ?_, ?_⟩
        · omega
        · exact hno.step hx hy hc24
    · try simp only [br] at hc14
      refine Run.exit rfl ?_
      refine Run.seq ?_
      refine Run.region ?_
      refine RL.val (x_assignB rfl) ?_
      refine RL.nil ?_
      refine Run.ret1 (v := .bool (true)) Tryz.func71 rfl rfl ?_
      exact ⟨_, rfl, by rw [decide_eq_true (hno.all hlen (by omega))], K0⟩

set_option maxRecDepth 100000 in
set_option maxHeartbeats 4000000 in
theorem clone_ent (a : Option Addr) (xs : List EntryC) (c : Nat) (w : World) (hs : SlOf w a xs) (hl : xs.length ≤ 4294967295) :
    Calls Tryz.prog 63 #[.slice (a) (xs.length) (c)] w (Ret (fun v w' => ∃ a' c', v = .slice a' xs.length c' ∧ OwnSl w' 118 a' c' xs ∧ (∀ b, own a' b → w.heap.size ≤ b) ∧ Ext w w')) := by
  refine calls_run (n := 8) Tryz.func63 rfl rfl rfl ?_
  refine Run.seq ?_
  refine Run.region ?_
  refine RL.val (x_assignSl rfl) ?_
  refine RL.nil ?_
  refine Run.seq ?_
  refine Run.seq ?_
  refine Run.region ?_
  refine RL.val (x_moveSl rfl) ?_
  refine RL.val (x_slNil Tryz.underlying44 rfl rfl) ?_
  refine RL.nil ?_
  refine Run.cond rfl (fun hc4 => ?_) (fun hc4 => ?_)
  · skip
    refine Run.seq ?_
    refine Run.region ?_
    refine RL.val (x_assignSl rfl) ?_
    refine RL.nil ?_
    refine Run.ret1 (v := .slice (none) (0) (0)) Tryz.func63 rfl rfl ?_
    have hx := hs.nil_of hc4; subst hx; exact ⟨_, rfl, none, 0, rfl, OwnSl.nil _ _, fun b h => absurd h (own_none b), (Keeps.refl _ w)⟩
  · skip
    refine Run.skip ?_
    refine Run.seq ?_
    refine Run.region ?_
    refine RL.st rfl <| St1.buildSlice ([] : List EntryC) Tryz.underlying44 ty118 rfl rfl (by first | decide | (simp [Enc.size])) ?_
    intro b_1 w_2 hl_5 ho_4 K_3
    have pg_6 : ∀ q_, own (some ⟨b_1, 0, none⟩) q_ → w.heap.size ≤ q_ := fun q_ h => Nat.le_trans (Nat.le_refl _) ((ge_new hl_5) q_ h)
    clear hl_5
    have K0 := (K_3 : Ext w _)
    refine RL.val (x_moveSl rfl) ?_
    refine RL.st rfl <| St1.append (xs := ([] : List EntryC)) (ys := xs) Tryz.underlying44 ty118 rfl rfl rfl ho_4 (hs.ext K0) (by first | omega | (simp only [lr]; omega)) (by decide) ?_
    intro a_7 c_8 w_9 ho_10 K_11 hm_12 hrm_13
    have pg_14 : ∀ q_, own a_7 q_ → w.heap.size ≤ q_ := hm_12.ge pg_6 K0.size
    replace K0 := K0.new K_11 pg_6
    clear hm_12
    clear hrm_13
    refine RL.val (x_assignSl rfl) ?_
    refine RL.nil ?_
    refine Run.ret1 (v := .slice (a_7) ((([] : List EntryC) ++ xs).length) (c_8)) Tryz.func63 rfl rfl ?_
    exact ⟨_, rfl, a_7, c_8, by rw [List.nil_append], by simpa using ho_10, pg_14, K0⟩

set_option maxRecDepth 100000 in
set_option maxHeartbeats 4000000 in
theorem equal_mrk (a : Option Addr) (xs : List MarkC) (c : Nat) (d : Option Addr) (ys : List MarkC) (e : Nat) (w : World) (hs : SlOf w a xs) (ht : SlOf w d ys) (hl : xs.length ≤ 4294967295) :
    Calls Tryz.prog 79 #[.slice (a) (xs.length) (c), .slice (d) (ys.length) (e)] w (Ret (fun v w' => v = .bool (decide (xs = ys)) ∧ Ext w w')) := by
  refine calls_run (n := 26) Tryz.func79 rfl rfl rfl ?_
  refine Run.seq ?_
  refine Run.region ?_
  refine RL.val (x_assignB rfl) ?_
  refine RL.nil ?_
  refine Run.seq ?_
  refine Run.seq ?_
  refine Run.region ?_
  refine RL.val (x_moveSl rfl) ?_
  refine RL.val (x_lenSl Tryz.underlying45 rfl) ?_
  refine RL.val (x_moveSl rfl) ?_
  refine RL.val (x_lenSl Tryz.underlying45 rfl) ?_
  refine RL.val (x_neI rfl rfl) ?_
  refine RL.nil ?_
  refine Run.cond rfl (fun hc10 => ?_) (fun hc10 => ?_)
  · try simp only [br] at hc10
    refine Run.seq ?_
    refine Run.region ?_
    refine RL.val (x_assignB rfl) ?_
    refine RL.nil ?_
    refine Run.ret1 (v := .bool (false)) Tryz.func79 rfl rfl ?_
    exact ⟨_, rfl, by rw [decide_eq_false (fun h => hc10 (by rw [h]))], (Keeps.refl _ w)⟩
  · try simp only [br] at hc10
    have hlen : xs.length = ys.length := by omega
    refine Run.skip ?_
    refine Run.seq ?_
    refine Run.seq ?_
    refine Run.region ?_
    refine RL.val (x_moveSl rfl) ?_
    refine RL.val (x_lenSl Tryz.underlying45 rfl) ?_
    refine RL.val (x_moveI rfl) ?_
    refine RL.nil ?_
    refine Run.block ?_
    refine Run.loop (ι := Nat) (fun i ρ' w' => Holds ρ' [(0, .slice (a) (xs.length) (c)), (1, .slice (d) (ys.length) (e)), (12, .int .i64 (((xs.length : Nat) : Int))), (13, .int .i64 (((i : Nat) : Int)))] ∧ Ext w w' ∧ (i ≤ xs.length) ∧ (SameB xs ys i)) (fun i => xs.length - i) 0 ?_ ?_
    · refine ⟨⟨rfl, rfl, rfl, rfl, trivial⟩, (Keeps.refl _ w), ?_, ?_⟩
      · omega
      · exact SameB.zero _ _
    rintro i ρ_3 w_1 ⟨hH_2, K0, hi, hno⟩ ih1
    obtain ⟨ρ₀, rfl⟩ := hH_2.ex
    clear hH_2
    refine Run.seq ?_
    refine Run.region ?_
    refine RL.val (x_ltI rfl rfl) ?_
    refine RL.nil ?_
    refine Run.seq ?_
    refine Run.cond rfl (fun hc14 => ?_) (fun hc14 => ?_)
    · try simp only [br] at hc14
      refine Run.skip ?_
      refine Run.seq ?_
      refine Run.block ?_
      refine Run.seq ?_
      refine Run.region ?_
      refine RL.val (x_moveI rfl) ?_
      refine RL.val (x_assignI rfl) ?_
      refine RL.nil ?_
      refine Run.seq ?_
      obtain ⟨b_6, o_7, x, hx, ha_8, hc_9⟩ := hs.el (i := i) (by first | omega | (simp only [List.length_set]; omega))
      have hc_9_lt := hc_9.lt
      replace hc_9 := hc_9.ext K0
      obtain ⟨b_12, o_13, y, hy, ha_14, hc_15⟩ := ht.el (i := i) (by first | omega | (simp only [List.length_set]; omega))
      have hc_15_lt := hc_15.lt
      replace hc_15 := hc_15.ext K0
      refine Run.draw' (m := 9) (by kernel_rfl) rfl ?_
      intro w_4 K_5
      replace hc_9 := hc_9.ext K_5
      replace hc_15 := hc_15.ext K_5
      replace K0 := K0.ext K_5
      refine RA.take (v := .slice (a) (xs.length) (c)) 0 rfl (by kernel_rfl) rfl (by rintro _ rfl; exact (x_moveSl rfl)) ?_
      refine RA.take (v := .int .i64 (((i : Nat) : Int))) 1 rfl (by kernel_rfl) rfl (by rintro _ rfl; exact (x_moveI rfl)) ?_
      refine RA.take (v := .pointer (some ⟨b_6, o_7 + i * 3, none⟩)) 2 rfl (by kernel_rfl) rfl (by rintro _ rfl; exact (x_idxN Tryz.underlying45 ty120 rfl rfl ha_8 (by first | omega | (simp only [List.length_set]; omega)))) ?_
      refine RA.take (v := .agg #[.int .i64 ((x).node), .int .i64 ((x).life), .int .i64 ((x).count)]) 3 rfl (by kernel_rfl) rfl (by rintro _ rfl; exact (x_ldV (v := .agg #[.int .i64 ((x).node), .int .i64 ((x).life), .int .i64 ((x).count)]) (y := x) ty120 rfl hc_9 rfl)) ?_
      refine RA.take (v := .slice (d) (ys.length) (e)) 4 rfl (by kernel_rfl) rfl (by rintro _ rfl; exact (x_moveSl rfl)) ?_
      refine RA.take (v := .int .i64 (((i : Nat) : Int))) 5 rfl (by kernel_rfl) rfl (by rintro _ rfl; exact (x_moveI rfl)) ?_
      refine RA.take (v := .pointer (some ⟨b_12, o_13 + i * 3, none⟩)) 6 rfl (by kernel_rfl) rfl (by rintro _ rfl; exact (x_idxN Tryz.underlying45 ty120 rfl rfl ha_14 (by first | omega | (simp only [List.length_set]; omega)))) ?_
      refine RA.take (v := .agg #[.int .i64 ((y).node), .int .i64 ((y).life), .int .i64 ((y).count)]) 7 rfl (by kernel_rfl) rfl (by rintro _ rfl; exact (x_ldV (v := .agg #[.int .i64 ((y).node), .int .i64 ((y).life), .int .i64 ((y).count)]) (y := y) ty120 rfl hc_15 rfl)) ?_
      refine RA.take (v := .bool (!decide (x = y))) 8 rfl (by kernel_rfl) rfl (by rintro _ rfl; exact (x_neA (by kernel_rfl) rfl rfl (eq_MarkC x y))) ?_
      refine RA.done (by kernel_rfl) ?_
      refine Run.cond rfl (fun hc24 => ?_) (fun hc24 => ?_)
      · try simp only [br] at hc24
        refine Run.seq ?_
        refine Run.region ?_
        refine RL.val (x_assignB rfl) ?_
        refine RL.nil ?_
        refine Run.ret1 (v := .bool (false)) Tryz.func79 rfl rfl ?_
        exact ⟨_, rfl, by rw [decide_eq_false (ne_of_at hx hy hc24)], K0⟩
      · try simp only [br] at hc24
        refine Run.skip ?_
        refine Run.inBlock ?_
        refine Run.region ?_
        refine RL.val (litI (c := ((i + 1 : Nat) : Int)) (x_add rfl rfl (by omega) (by omega)) rfl) ?_
        refine RL.val (x_moveI rfl) ?_
        refine RL.nil ?_
        refine ih1 (i + 1) _ _ ?_ (by omega)
        refine ⟨⟨rfl, rfl, rfl, rfl, trivial⟩, K0, ?_, ?_⟩
        · omega
        · exact hno.step hx hy hc24
    · try simp only [br] at hc14
      refine Run.exit rfl ?_
      refine Run.seq ?_
      refine Run.region ?_
      refine RL.val (x_assignB rfl) ?_
      refine RL.nil ?_
      refine Run.ret1 (v := .bool (true)) Tryz.func79 rfl rfl ?_
      exact ⟨_, rfl, by rw [decide_eq_true (hno.all hlen (by omega))], K0⟩

set_option maxRecDepth 100000 in
set_option maxHeartbeats 4000000 in
theorem clone_mrk (a : Option Addr) (xs : List MarkC) (c : Nat) (w : World) (hs : SlOf w a xs) (hl : xs.length ≤ 4294967295) :
    Calls Tryz.prog 64 #[.slice (a) (xs.length) (c)] w (Ret (fun v w' => ∃ a' c', v = .slice a' xs.length c' ∧ OwnSl w' 120 a' c' xs ∧ (∀ b, own a' b → w.heap.size ≤ b) ∧ Ext w w')) := by
  refine calls_run (n := 8) Tryz.func64 rfl rfl rfl ?_
  refine Run.seq ?_
  refine Run.region ?_
  refine RL.val (x_assignSl rfl) ?_
  refine RL.nil ?_
  refine Run.seq ?_
  refine Run.seq ?_
  refine Run.region ?_
  refine RL.val (x_moveSl rfl) ?_
  refine RL.val (x_slNil Tryz.underlying45 rfl rfl) ?_
  refine RL.nil ?_
  refine Run.cond rfl (fun hc4 => ?_) (fun hc4 => ?_)
  · skip
    refine Run.seq ?_
    refine Run.region ?_
    refine RL.val (x_assignSl rfl) ?_
    refine RL.nil ?_
    refine Run.ret1 (v := .slice (none) (0) (0)) Tryz.func64 rfl rfl ?_
    have hx := hs.nil_of hc4; subst hx; exact ⟨_, rfl, none, 0, rfl, OwnSl.nil _ _, fun b h => absurd h (own_none b), (Keeps.refl _ w)⟩
  · skip
    refine Run.skip ?_
    refine Run.seq ?_
    refine Run.region ?_
    refine RL.st rfl <| St1.buildSlice ([] : List MarkC) Tryz.underlying45 ty120 rfl rfl (by first | decide | (simp [Enc.size])) ?_
    intro b_1 w_2 hl_5 ho_4 K_3
    have pg_6 : ∀ q_, own (some ⟨b_1, 0, none⟩) q_ → w.heap.size ≤ q_ := fun q_ h => Nat.le_trans (Nat.le_refl _) ((ge_new hl_5) q_ h)
    clear hl_5
    have K0 := (K_3 : Ext w _)
    refine RL.val (x_moveSl rfl) ?_
    refine RL.st rfl <| St1.append (xs := ([] : List MarkC)) (ys := xs) Tryz.underlying45 ty120 rfl rfl rfl ho_4 (hs.ext K0) (by first | omega | (simp only [lr]; omega)) (by decide) ?_
    intro a_7 c_8 w_9 ho_10 K_11 hm_12 hrm_13
    have pg_14 : ∀ q_, own a_7 q_ → w.heap.size ≤ q_ := hm_12.ge pg_6 K0.size
    replace K0 := K0.new K_11 pg_6
    clear hm_12
    clear hrm_13
    refine RL.val (x_assignSl rfl) ?_
    refine RL.nil ?_
    refine Run.ret1 (v := .slice (a_7) ((([] : List MarkC) ++ xs).length) (c_8)) Tryz.func64 rfl rfl ?_
    exact ⟨_, rfl, a_7, c_8, by rw [List.nil_append], by simpa using ho_10, pg_14, K0⟩

set_option maxRecDepth 100000 in
set_option maxHeartbeats 4000000 in
theorem equal_cl (a : Option Addr) (xs : List DotC) (c : Nat) (d : Option Addr) (ys : List DotC) (e : Nat) (w : World) (hs : SlOf w a xs) (ht : SlOf w d ys) (hl : xs.length ≤ 4294967295) :
    Calls Tryz.prog 80 #[.slice (a) (xs.length) (c), .slice (d) (ys.length) (e)] w (Ret (fun v w' => v = .bool (decide (xs = ys)) ∧ Ext w w')) := by
  refine calls_run (n := 26) Tryz.func80 rfl rfl rfl ?_
  refine Run.seq ?_
  refine Run.region ?_
  refine RL.val (x_assignB rfl) ?_
  refine RL.nil ?_
  refine Run.seq ?_
  refine Run.seq ?_
  refine Run.region ?_
  refine RL.val (x_moveSl rfl) ?_
  refine RL.val (x_lenSl Tryz.underlying46 rfl) ?_
  refine RL.val (x_moveSl rfl) ?_
  refine RL.val (x_lenSl Tryz.underlying46 rfl) ?_
  refine RL.val (x_neI rfl rfl) ?_
  refine RL.nil ?_
  refine Run.cond rfl (fun hc10 => ?_) (fun hc10 => ?_)
  · try simp only [br] at hc10
    refine Run.seq ?_
    refine Run.region ?_
    refine RL.val (x_assignB rfl) ?_
    refine RL.nil ?_
    refine Run.ret1 (v := .bool (false)) Tryz.func80 rfl rfl ?_
    exact ⟨_, rfl, by rw [decide_eq_false (fun h => hc10 (by rw [h]))], (Keeps.refl _ w)⟩
  · try simp only [br] at hc10
    have hlen : xs.length = ys.length := by omega
    refine Run.skip ?_
    refine Run.seq ?_
    refine Run.seq ?_
    refine Run.region ?_
    refine RL.val (x_moveSl rfl) ?_
    refine RL.val (x_lenSl Tryz.underlying46 rfl) ?_
    refine RL.val (x_moveI rfl) ?_
    refine RL.nil ?_
    refine Run.block ?_
    refine Run.loop (ι := Nat) (fun i ρ' w' => Holds ρ' [(0, .slice (a) (xs.length) (c)), (1, .slice (d) (ys.length) (e)), (12, .int .i64 (((xs.length : Nat) : Int))), (13, .int .i64 (((i : Nat) : Int)))] ∧ Ext w w' ∧ (i ≤ xs.length) ∧ (SameB xs ys i)) (fun i => xs.length - i) 0 ?_ ?_
    · refine ⟨⟨rfl, rfl, rfl, rfl, trivial⟩, (Keeps.refl _ w), ?_, ?_⟩
      · omega
      · exact SameB.zero _ _
    rintro i ρ_3 w_1 ⟨hH_2, K0, hi, hno⟩ ih1
    obtain ⟨ρ₀, rfl⟩ := hH_2.ex
    clear hH_2
    refine Run.seq ?_
    refine Run.region ?_
    refine RL.val (x_ltI rfl rfl) ?_
    refine RL.nil ?_
    refine Run.seq ?_
    refine Run.cond rfl (fun hc14 => ?_) (fun hc14 => ?_)
    · try simp only [br] at hc14
      refine Run.skip ?_
      refine Run.seq ?_
      refine Run.block ?_
      refine Run.seq ?_
      refine Run.region ?_
      refine RL.val (x_moveI rfl) ?_
      refine RL.val (x_assignI rfl) ?_
      refine RL.nil ?_
      refine Run.seq ?_
      obtain ⟨b_6, o_7, x, hx, ha_8, hc_9⟩ := hs.el (i := i) (by first | omega | (simp only [List.length_set]; omega))
      have hc_9_lt := hc_9.lt
      replace hc_9 := hc_9.ext K0
      obtain ⟨b_12, o_13, y, hy, ha_14, hc_15⟩ := ht.el (i := i) (by first | omega | (simp only [List.length_set]; omega))
      have hc_15_lt := hc_15.lt
      replace hc_15 := hc_15.ext K0
      refine Run.draw' (m := 9) (by kernel_rfl) rfl ?_
      intro w_4 K_5
      replace hc_9 := hc_9.ext K_5
      replace hc_15 := hc_15.ext K_5
      replace K0 := K0.ext K_5
      refine RA.take (v := .slice (a) (xs.length) (c)) 0 rfl (by kernel_rfl) rfl (by rintro _ rfl; exact (x_moveSl rfl)) ?_
      refine RA.take (v := .int .i64 (((i : Nat) : Int))) 1 rfl (by kernel_rfl) rfl (by rintro _ rfl; exact (x_moveI rfl)) ?_
      refine RA.take (v := .pointer (some ⟨b_6, o_7 + i * 3, none⟩)) 2 rfl (by kernel_rfl) rfl (by rintro _ rfl; exact (x_idxN Tryz.underlying46 ty116 rfl rfl ha_8 (by first | omega | (simp only [List.length_set]; omega)))) ?_
      refine RA.take (v := .agg #[.int .i64 ((x).node), .int .i64 ((x).life), .int .i64 ((x).count)]) 3 rfl (by kernel_rfl) rfl (by rintro _ rfl; exact (x_ldV (v := .agg #[.int .i64 ((x).node), .int .i64 ((x).life), .int .i64 ((x).count)]) (y := x) ty116 rfl hc_9 rfl)) ?_
      refine RA.take (v := .slice (d) (ys.length) (e)) 4 rfl (by kernel_rfl) rfl (by rintro _ rfl; exact (x_moveSl rfl)) ?_
      refine RA.take (v := .int .i64 (((i : Nat) : Int))) 5 rfl (by kernel_rfl) rfl (by rintro _ rfl; exact (x_moveI rfl)) ?_
      refine RA.take (v := .pointer (some ⟨b_12, o_13 + i * 3, none⟩)) 6 rfl (by kernel_rfl) rfl (by rintro _ rfl; exact (x_idxN Tryz.underlying46 ty116 rfl rfl ha_14 (by first | omega | (simp only [List.length_set]; omega)))) ?_
      refine RA.take (v := .agg #[.int .i64 ((y).node), .int .i64 ((y).life), .int .i64 ((y).count)]) 7 rfl (by kernel_rfl) rfl (by rintro _ rfl; exact (x_ldV (v := .agg #[.int .i64 ((y).node), .int .i64 ((y).life), .int .i64 ((y).count)]) (y := y) ty116 rfl hc_15 rfl)) ?_
      refine RA.take (v := .bool (!decide (x = y))) 8 rfl (by kernel_rfl) rfl (by rintro _ rfl; exact (x_neA (by kernel_rfl) rfl rfl (eq_DotC x y))) ?_
      refine RA.done (by kernel_rfl) ?_
      refine Run.cond rfl (fun hc24 => ?_) (fun hc24 => ?_)
      · try simp only [br] at hc24
        refine Run.seq ?_
        refine Run.region ?_
        refine RL.val (x_assignB rfl) ?_
        refine RL.nil ?_
        refine Run.ret1 (v := .bool (false)) Tryz.func80 rfl rfl ?_
        exact ⟨_, rfl, by rw [decide_eq_false (ne_of_at hx hy hc24)], K0⟩
      · try simp only [br] at hc24
        refine Run.skip ?_
        refine Run.inBlock ?_
        refine Run.region ?_
        refine RL.val (litI (c := ((i + 1 : Nat) : Int)) (x_add rfl rfl (by omega) (by omega)) rfl) ?_
        refine RL.val (x_moveI rfl) ?_
        refine RL.nil ?_
        refine ih1 (i + 1) _ _ ?_ (by omega)
        refine ⟨⟨rfl, rfl, rfl, rfl, trivial⟩, K0, ?_, ?_⟩
        · omega
        · exact hno.step hx hy hc24
    · try simp only [br] at hc14
      refine Run.exit rfl ?_
      refine Run.seq ?_
      refine Run.region ?_
      refine RL.val (x_assignB rfl) ?_
      refine RL.nil ?_
      refine Run.ret1 (v := .bool (true)) Tryz.func80 rfl rfl ?_
      exact ⟨_, rfl, by rw [decide_eq_true (hno.all hlen (by omega))], K0⟩

set_option maxRecDepth 100000 in
set_option maxHeartbeats 4000000 in
theorem clone_cl (a : Option Addr) (xs : List DotC) (c : Nat) (w : World) (hs : SlOf w a xs) (hl : xs.length ≤ 4294967295) :
    Calls Tryz.prog 65 #[.slice (a) (xs.length) (c)] w (Ret (fun v w' => ∃ a' c', v = .slice a' xs.length c' ∧ OwnSl w' 116 a' c' xs ∧ (∀ b, own a' b → w.heap.size ≤ b) ∧ Ext w w')) := by
  refine calls_run (n := 8) Tryz.func65 rfl rfl rfl ?_
  refine Run.seq ?_
  refine Run.region ?_
  refine RL.val (x_assignSl rfl) ?_
  refine RL.nil ?_
  refine Run.seq ?_
  refine Run.seq ?_
  refine Run.region ?_
  refine RL.val (x_moveSl rfl) ?_
  refine RL.val (x_slNil Tryz.underlying46 rfl rfl) ?_
  refine RL.nil ?_
  refine Run.cond rfl (fun hc4 => ?_) (fun hc4 => ?_)
  · skip
    refine Run.seq ?_
    refine Run.region ?_
    refine RL.val (x_assignSl rfl) ?_
    refine RL.nil ?_
    refine Run.ret1 (v := .slice (none) (0) (0)) Tryz.func65 rfl rfl ?_
    have hx := hs.nil_of hc4; subst hx; exact ⟨_, rfl, none, 0, rfl, OwnSl.nil _ _, fun b h => absurd h (own_none b), (Keeps.refl _ w)⟩
  · skip
    refine Run.skip ?_
    refine Run.seq ?_
    refine Run.region ?_
    refine RL.st rfl <| St1.buildSlice ([] : List DotC) Tryz.underlying46 ty116 rfl rfl (by first | decide | (simp [Enc.size])) ?_
    intro b_1 w_2 hl_5 ho_4 K_3
    have pg_6 : ∀ q_, own (some ⟨b_1, 0, none⟩) q_ → w.heap.size ≤ q_ := fun q_ h => Nat.le_trans (Nat.le_refl _) ((ge_new hl_5) q_ h)
    clear hl_5
    have K0 := (K_3 : Ext w _)
    refine RL.val (x_moveSl rfl) ?_
    refine RL.st rfl <| St1.append (xs := ([] : List DotC)) (ys := xs) Tryz.underlying46 ty116 rfl rfl rfl ho_4 (hs.ext K0) (by first | omega | (simp only [lr]; omega)) (by decide) ?_
    intro a_7 c_8 w_9 ho_10 K_11 hm_12 hrm_13
    have pg_14 : ∀ q_, own a_7 q_ → w.heap.size ≤ q_ := hm_12.ge pg_6 K0.size
    replace K0 := K0.new K_11 pg_6
    clear hm_12
    clear hrm_13
    refine RL.val (x_assignSl rfl) ?_
    refine RL.nil ?_
    refine Run.ret1 (v := .slice (a_7) ((([] : List DotC) ++ xs).length) (c_8)) Tryz.func65 rfl rfl ?_
    exact ⟨_, rfl, a_7, c_8, by rw [List.nil_append], by simpa using ho_10, pg_14, K0⟩

set_option maxRecDepth 100000 in
set_option maxHeartbeats 4000000 in
theorem equal_mem (a : Option Addr) (xs : List MemberC) (c : Nat) (d : Option Addr) (ys : List MemberC) (e : Nat) (w : World) (hs : SlOf w a xs) (ht : SlOf w d ys) (hl : xs.length ≤ 4294967295) :
    Calls Tryz.prog 73 #[.slice (a) (xs.length) (c), .slice (d) (ys.length) (e)] w (Ret (fun v w' => v = .bool (decide (xs = ys)) ∧ Ext w w')) := by
  refine calls_run (n := 26) Tryz.func73 rfl rfl rfl ?_
  refine Run.seq ?_
  refine Run.region ?_
  refine RL.val (x_assignB rfl) ?_
  refine RL.nil ?_
  refine Run.seq ?_
  refine Run.seq ?_
  refine Run.region ?_
  refine RL.val (x_moveSl rfl) ?_
  refine RL.val (x_lenSl Tryz.underlying51 rfl) ?_
  refine RL.val (x_moveSl rfl) ?_
  refine RL.val (x_lenSl Tryz.underlying51 rfl) ?_
  refine RL.val (x_neI rfl rfl) ?_
  refine RL.nil ?_
  refine Run.cond rfl (fun hc10 => ?_) (fun hc10 => ?_)
  · try simp only [br] at hc10
    refine Run.seq ?_
    refine Run.region ?_
    refine RL.val (x_assignB rfl) ?_
    refine RL.nil ?_
    refine Run.ret1 (v := .bool (false)) Tryz.func73 rfl rfl ?_
    exact ⟨_, rfl, by rw [decide_eq_false (fun h => hc10 (by rw [h]))], (Keeps.refl _ w)⟩
  · try simp only [br] at hc10
    have hlen : xs.length = ys.length := by omega
    refine Run.skip ?_
    refine Run.seq ?_
    refine Run.seq ?_
    refine Run.region ?_
    refine RL.val (x_moveSl rfl) ?_
    refine RL.val (x_lenSl Tryz.underlying51 rfl) ?_
    refine RL.val (x_moveI rfl) ?_
    refine RL.nil ?_
    refine Run.block ?_
    refine Run.loop (ι := Nat) (fun i ρ' w' => Holds ρ' [(0, .slice (a) (xs.length) (c)), (1, .slice (d) (ys.length) (e)), (12, .int .i64 (((xs.length : Nat) : Int))), (13, .int .i64 (((i : Nat) : Int)))] ∧ Ext w w' ∧ (i ≤ xs.length) ∧ (SameB xs ys i)) (fun i => xs.length - i) 0 ?_ ?_
    · refine ⟨⟨rfl, rfl, rfl, rfl, trivial⟩, (Keeps.refl _ w), ?_, ?_⟩
      · omega
      · exact SameB.zero _ _
    rintro i ρ_3 w_1 ⟨hH_2, K0, hi, hno⟩ ih1
    obtain ⟨ρ₀, rfl⟩ := hH_2.ex
    clear hH_2
    refine Run.seq ?_
    refine Run.region ?_
    refine RL.val (x_ltI rfl rfl) ?_
    refine RL.nil ?_
    refine Run.seq ?_
    refine Run.cond rfl (fun hc14 => ?_) (fun hc14 => ?_)
    · try simp only [br] at hc14
      refine Run.skip ?_
      refine Run.seq ?_
      refine Run.block ?_
      refine Run.seq ?_
      refine Run.region ?_
      refine RL.val (x_moveI rfl) ?_
      refine RL.val (x_assignI rfl) ?_
      refine RL.nil ?_
      refine Run.seq ?_
      obtain ⟨b_6, o_7, x, hx, ha_8, hc_9⟩ := hs.el (i := i) (by first | omega | (simp only [List.length_set]; omega))
      have hc_9_lt := hc_9.lt
      replace hc_9 := hc_9.ext K0
      obtain ⟨b_12, o_13, y, hy, ha_14, hc_15⟩ := ht.el (i := i) (by first | omega | (simp only [List.length_set]; omega))
      have hc_15_lt := hc_15.lt
      replace hc_15 := hc_15.ext K0
      refine Run.draw' (m := 9) (by kernel_rfl) rfl ?_
      intro w_4 K_5
      replace hc_9 := hc_9.ext K_5
      replace hc_15 := hc_15.ext K_5
      replace K0 := K0.ext K_5
      refine RA.take (v := .slice (a) (xs.length) (c)) 0 rfl (by kernel_rfl) rfl (by rintro _ rfl; exact (x_moveSl rfl)) ?_
      refine RA.take (v := .int .i64 (((i : Nat) : Int))) 1 rfl (by kernel_rfl) rfl (by rintro _ rfl; exact (x_moveI rfl)) ?_
      refine RA.take (v := .pointer (some ⟨b_6, o_7 + i * 4, none⟩)) 2 rfl (by kernel_rfl) rfl (by rintro _ rfl; exact (x_idxN Tryz.underlying51 ty85 rfl rfl ha_8 (by first | omega | (simp only [List.length_set]; omega)))) ?_
      refine RA.take (v := .agg #[.int .i64 ((x).node), .int .i64 ((x).epoch), .int .i64 ((x).stamp), .int .i64 ((x).status)]) 3 rfl (by kernel_rfl) rfl (by rintro _ rfl; exact (x_ldV (v := .agg #[.int .i64 ((x).node), .int .i64 ((x).epoch), .int .i64 ((x).stamp), .int .i64 ((x).status)]) (y := x) ty85 rfl hc_9 rfl)) ?_
      refine RA.take (v := .slice (d) (ys.length) (e)) 4 rfl (by kernel_rfl) rfl (by rintro _ rfl; exact (x_moveSl rfl)) ?_
      refine RA.take (v := .int .i64 (((i : Nat) : Int))) 5 rfl (by kernel_rfl) rfl (by rintro _ rfl; exact (x_moveI rfl)) ?_
      refine RA.take (v := .pointer (some ⟨b_12, o_13 + i * 4, none⟩)) 6 rfl (by kernel_rfl) rfl (by rintro _ rfl; exact (x_idxN Tryz.underlying51 ty85 rfl rfl ha_14 (by first | omega | (simp only [List.length_set]; omega)))) ?_
      refine RA.take (v := .agg #[.int .i64 ((y).node), .int .i64 ((y).epoch), .int .i64 ((y).stamp), .int .i64 ((y).status)]) 7 rfl (by kernel_rfl) rfl (by rintro _ rfl; exact (x_ldV (v := .agg #[.int .i64 ((y).node), .int .i64 ((y).epoch), .int .i64 ((y).stamp), .int .i64 ((y).status)]) (y := y) ty85 rfl hc_15 rfl)) ?_
      refine RA.take (v := .bool (!decide (x = y))) 8 rfl (by kernel_rfl) rfl (by rintro _ rfl; exact (x_neA (by kernel_rfl) rfl rfl (eq_MemberC x y))) ?_
      refine RA.done (by kernel_rfl) ?_
      refine Run.cond rfl (fun hc24 => ?_) (fun hc24 => ?_)
      · try simp only [br] at hc24
        refine Run.seq ?_
        refine Run.region ?_
        refine RL.val (x_assignB rfl) ?_
        refine RL.nil ?_
        refine Run.ret1 (v := .bool (false)) Tryz.func73 rfl rfl ?_
        exact ⟨_, rfl, by rw [decide_eq_false (ne_of_at hx hy hc24)], K0⟩
      · try simp only [br] at hc24
        refine Run.skip ?_
        refine Run.inBlock ?_
        refine Run.region ?_
        refine RL.val (litI (c := ((i + 1 : Nat) : Int)) (x_add rfl rfl (by omega) (by omega)) rfl) ?_
        refine RL.val (x_moveI rfl) ?_
        refine RL.nil ?_
        refine ih1 (i + 1) _ _ ?_ (by omega)
        refine ⟨⟨rfl, rfl, rfl, rfl, trivial⟩, K0, ?_, ?_⟩
        · omega
        · exact hno.step hx hy hc24
    · try simp only [br] at hc14
      refine Run.exit rfl ?_
      refine Run.seq ?_
      refine Run.region ?_
      refine RL.val (x_assignB rfl) ?_
      refine RL.nil ?_
      refine Run.ret1 (v := .bool (true)) Tryz.func73 rfl rfl ?_
      exact ⟨_, rfl, by rw [decide_eq_true (hno.all hlen (by omega))], K0⟩

set_option maxRecDepth 100000 in
set_option maxHeartbeats 4000000 in
theorem clone_mem (a : Option Addr) (xs : List MemberC) (c : Nat) (w : World) (hs : SlOf w a xs) (hl : xs.length ≤ 4294967295) :
    Calls Tryz.prog 66 #[.slice (a) (xs.length) (c)] w (Ret (fun v w' => ∃ a' c', v = .slice a' xs.length c' ∧ OwnSl w' 85 a' c' xs ∧ (∀ b, own a' b → w.heap.size ≤ b) ∧ Ext w w')) := by
  refine calls_run (n := 8) Tryz.func66 rfl rfl rfl ?_
  refine Run.seq ?_
  refine Run.region ?_
  refine RL.val (x_assignSl rfl) ?_
  refine RL.nil ?_
  refine Run.seq ?_
  refine Run.seq ?_
  refine Run.region ?_
  refine RL.val (x_moveSl rfl) ?_
  refine RL.val (x_slNil Tryz.underlying51 rfl rfl) ?_
  refine RL.nil ?_
  refine Run.cond rfl (fun hc4 => ?_) (fun hc4 => ?_)
  · skip
    refine Run.seq ?_
    refine Run.region ?_
    refine RL.val (x_assignSl rfl) ?_
    refine RL.nil ?_
    refine Run.ret1 (v := .slice (none) (0) (0)) Tryz.func66 rfl rfl ?_
    have hx := hs.nil_of hc4; subst hx; exact ⟨_, rfl, none, 0, rfl, OwnSl.nil _ _, fun b h => absurd h (own_none b), (Keeps.refl _ w)⟩
  · skip
    refine Run.skip ?_
    refine Run.seq ?_
    refine Run.region ?_
    refine RL.st rfl <| St1.buildSlice ([] : List MemberC) Tryz.underlying51 ty85 rfl rfl (by first | decide | (simp [Enc.size])) ?_
    intro b_1 w_2 hl_5 ho_4 K_3
    have pg_6 : ∀ q_, own (some ⟨b_1, 0, none⟩) q_ → w.heap.size ≤ q_ := fun q_ h => Nat.le_trans (Nat.le_refl _) ((ge_new hl_5) q_ h)
    clear hl_5
    have K0 := (K_3 : Ext w _)
    refine RL.val (x_moveSl rfl) ?_
    refine RL.st rfl <| St1.append (xs := ([] : List MemberC)) (ys := xs) Tryz.underlying51 ty85 rfl rfl rfl ho_4 (hs.ext K0) (by first | omega | (simp only [lr]; omega)) (by decide) ?_
    intro a_7 c_8 w_9 ho_10 K_11 hm_12 hrm_13
    have pg_14 : ∀ q_, own a_7 q_ → w.heap.size ≤ q_ := hm_12.ge pg_6 K0.size
    replace K0 := K0.new K_11 pg_6
    clear hm_12
    clear hrm_13
    refine RL.val (x_assignSl rfl) ?_
    refine RL.nil ?_
    refine Run.ret1 (v := .slice (a_7) ((([] : List MemberC) ++ xs).length) (c_8)) Tryz.func66 rfl rfl ?_
    exact ⟨_, rfl, a_7, c_8, by rw [List.nil_append], by simpa using ho_10, pg_14, K0⟩

set_option maxRecDepth 100000 in
set_option maxHeartbeats 4000000 in
theorem equal_pe (a : Option Addr) (xs : List PeerC) (c : Nat) (d : Option Addr) (ys : List PeerC) (e : Nat) (w : World) (hs : SlOf w a xs) (ht : SlOf w d ys) (hl : xs.length ≤ 4294967295) :
    Calls Tryz.prog 49 #[.slice (a) (xs.length) (c), .slice (d) (ys.length) (e)] w (Ret (fun v w' => v = .bool (decide (xs = ys)) ∧ Ext w w')) := by
  refine calls_run (n := 26) Tryz.func49 rfl rfl rfl ?_
  refine Run.seq ?_
  refine Run.region ?_
  refine RL.val (x_assignB rfl) ?_
  refine RL.nil ?_
  refine Run.seq ?_
  refine Run.seq ?_
  refine Run.region ?_
  refine RL.val (x_moveSl rfl) ?_
  refine RL.val (x_lenSl Tryz.underlying54 rfl) ?_
  refine RL.val (x_moveSl rfl) ?_
  refine RL.val (x_lenSl Tryz.underlying54 rfl) ?_
  refine RL.val (x_neI rfl rfl) ?_
  refine RL.nil ?_
  refine Run.cond rfl (fun hc10 => ?_) (fun hc10 => ?_)
  · try simp only [br] at hc10
    refine Run.seq ?_
    refine Run.region ?_
    refine RL.val (x_assignB rfl) ?_
    refine RL.nil ?_
    refine Run.ret1 (v := .bool (false)) Tryz.func49 rfl rfl ?_
    exact ⟨_, rfl, by rw [decide_eq_false (fun h => hc10 (by rw [h]))], (Keeps.refl _ w)⟩
  · try simp only [br] at hc10
    have hlen : xs.length = ys.length := by omega
    refine Run.skip ?_
    refine Run.seq ?_
    refine Run.seq ?_
    refine Run.region ?_
    refine RL.val (x_moveSl rfl) ?_
    refine RL.val (x_lenSl Tryz.underlying54 rfl) ?_
    refine RL.val (x_moveI rfl) ?_
    refine RL.nil ?_
    refine Run.block ?_
    refine Run.loop (ι := Nat) (fun i ρ' w' => Holds ρ' [(0, .slice (a) (xs.length) (c)), (1, .slice (d) (ys.length) (e)), (12, .int .i64 (((xs.length : Nat) : Int))), (13, .int .i64 (((i : Nat) : Int)))] ∧ Ext w w' ∧ (i ≤ xs.length) ∧ (SameB xs ys i)) (fun i => xs.length - i) 0 ?_ ?_
    · refine ⟨⟨rfl, rfl, rfl, rfl, trivial⟩, (Keeps.refl _ w), ?_, ?_⟩
      · omega
      · exact SameB.zero _ _
    rintro i ρ_3 w_1 ⟨hH_2, K0, hi, hno⟩ ih1
    obtain ⟨ρ₀, rfl⟩ := hH_2.ex
    clear hH_2
    refine Run.seq ?_
    refine Run.region ?_
    refine RL.val (x_ltI rfl rfl) ?_
    refine RL.nil ?_
    refine Run.seq ?_
    refine Run.cond rfl (fun hc14 => ?_) (fun hc14 => ?_)
    · try simp only [br] at hc14
      refine Run.skip ?_
      refine Run.seq ?_
      refine Run.block ?_
      refine Run.seq ?_
      refine Run.region ?_
      refine RL.val (x_moveI rfl) ?_
      refine RL.val (x_assignI rfl) ?_
      refine RL.nil ?_
      refine Run.seq ?_
      obtain ⟨b_6, o_7, x, hx, ha_8, hc_9⟩ := hs.el (i := i) (by first | omega | (simp only [List.length_set]; omega))
      have hc_9_lt := hc_9.lt
      replace hc_9 := hc_9.ext K0
      obtain ⟨b_12, o_13, y, hy, ha_14, hc_15⟩ := ht.el (i := i) (by first | omega | (simp only [List.length_set]; omega))
      have hc_15_lt := hc_15.lt
      replace hc_15 := hc_15.ext K0
      refine Run.draw' (m := 9) (by kernel_rfl) rfl ?_
      intro w_4 K_5
      replace hc_9 := hc_9.ext K_5
      replace hc_15 := hc_15.ext K_5
      replace K0 := K0.ext K_5
      refine RA.take (v := .slice (a) (xs.length) (c)) 0 rfl (by kernel_rfl) rfl (by rintro _ rfl; exact (x_moveSl rfl)) ?_
      refine RA.take (v := .int .i64 (((i : Nat) : Int))) 1 rfl (by kernel_rfl) rfl (by rintro _ rfl; exact (x_moveI rfl)) ?_
      refine RA.take (v := .pointer (some ⟨b_6, o_7 + i * 3, none⟩)) 2 rfl (by kernel_rfl) rfl (by rintro _ rfl; exact (x_idxN Tryz.underlying54 ty87 rfl rfl ha_8 (by first | omega | (simp only [List.length_set]; omega)))) ?_
      refine RA.take (v := .agg #[.int .i64 ((x).node), .int .i64 ((x).inc), .int .i64 ((x).status)]) 3 rfl (by kernel_rfl) rfl (by rintro _ rfl; exact (x_ldV (v := .agg #[.int .i64 ((x).node), .int .i64 ((x).inc), .int .i64 ((x).status)]) (y := x) ty87 rfl hc_9 rfl)) ?_
      refine RA.take (v := .slice (d) (ys.length) (e)) 4 rfl (by kernel_rfl) rfl (by rintro _ rfl; exact (x_moveSl rfl)) ?_
      refine RA.take (v := .int .i64 (((i : Nat) : Int))) 5 rfl (by kernel_rfl) rfl (by rintro _ rfl; exact (x_moveI rfl)) ?_
      refine RA.take (v := .pointer (some ⟨b_12, o_13 + i * 3, none⟩)) 6 rfl (by kernel_rfl) rfl (by rintro _ rfl; exact (x_idxN Tryz.underlying54 ty87 rfl rfl ha_14 (by first | omega | (simp only [List.length_set]; omega)))) ?_
      refine RA.take (v := .agg #[.int .i64 ((y).node), .int .i64 ((y).inc), .int .i64 ((y).status)]) 7 rfl (by kernel_rfl) rfl (by rintro _ rfl; exact (x_ldV (v := .agg #[.int .i64 ((y).node), .int .i64 ((y).inc), .int .i64 ((y).status)]) (y := y) ty87 rfl hc_15 rfl)) ?_
      refine RA.take (v := .bool (!decide (x = y))) 8 rfl (by kernel_rfl) rfl (by rintro _ rfl; exact (x_neA (by kernel_rfl) rfl rfl (eq_PeerC x y))) ?_
      refine RA.done (by kernel_rfl) ?_
      refine Run.cond rfl (fun hc24 => ?_) (fun hc24 => ?_)
      · try simp only [br] at hc24
        refine Run.seq ?_
        refine Run.region ?_
        refine RL.val (x_assignB rfl) ?_
        refine RL.nil ?_
        refine Run.ret1 (v := .bool (false)) Tryz.func49 rfl rfl ?_
        exact ⟨_, rfl, by rw [decide_eq_false (ne_of_at hx hy hc24)], K0⟩
      · try simp only [br] at hc24
        refine Run.skip ?_
        refine Run.inBlock ?_
        refine Run.region ?_
        refine RL.val (litI (c := ((i + 1 : Nat) : Int)) (x_add rfl rfl (by omega) (by omega)) rfl) ?_
        refine RL.val (x_moveI rfl) ?_
        refine RL.nil ?_
        refine ih1 (i + 1) _ _ ?_ (by omega)
        refine ⟨⟨rfl, rfl, rfl, rfl, trivial⟩, K0, ?_, ?_⟩
        · omega
        · exact hno.step hx hy hc24
    · try simp only [br] at hc14
      refine Run.exit rfl ?_
      refine Run.seq ?_
      refine Run.region ?_
      refine RL.val (x_assignB rfl) ?_
      refine RL.nil ?_
      refine Run.ret1 (v := .bool (true)) Tryz.func49 rfl rfl ?_
      exact ⟨_, rfl, by rw [decide_eq_true (hno.all hlen (by omega))], K0⟩

set_option maxRecDepth 100000 in
set_option maxHeartbeats 4000000 in
theorem clone_pe (a : Option Addr) (xs : List PeerC) (c : Nat) (w : World) (hs : SlOf w a xs) (hl : xs.length ≤ 4294967295) :
    Calls Tryz.prog 67 #[.slice (a) (xs.length) (c)] w (Ret (fun v w' => ∃ a' c', v = .slice a' xs.length c' ∧ OwnSl w' 87 a' c' xs ∧ (∀ b, own a' b → w.heap.size ≤ b) ∧ Ext w w')) := by
  refine calls_run (n := 8) Tryz.func67 rfl rfl rfl ?_
  refine Run.seq ?_
  refine Run.region ?_
  refine RL.val (x_assignSl rfl) ?_
  refine RL.nil ?_
  refine Run.seq ?_
  refine Run.seq ?_
  refine Run.region ?_
  refine RL.val (x_moveSl rfl) ?_
  refine RL.val (x_slNil Tryz.underlying54 rfl rfl) ?_
  refine RL.nil ?_
  refine Run.cond rfl (fun hc4 => ?_) (fun hc4 => ?_)
  · skip
    refine Run.seq ?_
    refine Run.region ?_
    refine RL.val (x_assignSl rfl) ?_
    refine RL.nil ?_
    refine Run.ret1 (v := .slice (none) (0) (0)) Tryz.func67 rfl rfl ?_
    have hx := hs.nil_of hc4; subst hx; exact ⟨_, rfl, none, 0, rfl, OwnSl.nil _ _, fun b h => absurd h (own_none b), (Keeps.refl _ w)⟩
  · skip
    refine Run.skip ?_
    refine Run.seq ?_
    refine Run.region ?_
    refine RL.st rfl <| St1.buildSlice ([] : List PeerC) Tryz.underlying54 ty87 rfl rfl (by first | decide | (simp [Enc.size])) ?_
    intro b_1 w_2 hl_5 ho_4 K_3
    have pg_6 : ∀ q_, own (some ⟨b_1, 0, none⟩) q_ → w.heap.size ≤ q_ := fun q_ h => Nat.le_trans (Nat.le_refl _) ((ge_new hl_5) q_ h)
    clear hl_5
    have K0 := (K_3 : Ext w _)
    refine RL.val (x_moveSl rfl) ?_
    refine RL.st rfl <| St1.append (xs := ([] : List PeerC)) (ys := xs) Tryz.underlying54 ty87 rfl rfl rfl ho_4 (hs.ext K0) (by first | omega | (simp only [lr]; omega)) (by decide) ?_
    intro a_7 c_8 w_9 ho_10 K_11 hm_12 hrm_13
    have pg_14 : ∀ q_, own a_7 q_ → w.heap.size ≤ q_ := hm_12.ge pg_6 K0.size
    replace K0 := K0.new K_11 pg_6
    clear hm_12
    clear hrm_13
    refine RL.val (x_assignSl rfl) ?_
    refine RL.nil ?_
    refine Run.ret1 (v := .slice (a_7) ((([] : List PeerC) ++ xs).length) (c_8)) Tryz.func67 rfl rfl ?_
    exact ⟨_, rfl, a_7, c_8, by rw [List.nil_append], by simpa using ho_10, pg_14, K0⟩

set_option maxRecDepth 100000 in
set_option maxHeartbeats 4000000 in
theorem equal_su (a : Option Addr) (xs : List SumC) (c : Nat) (d : Option Addr) (ys : List SumC) (e : Nat) (w : World) (hs : SlOf w a xs) (ht : SlOf w d ys) (hl : xs.length ≤ 4294967295) :
    Calls Tryz.prog 50 #[.slice (a) (xs.length) (c), .slice (d) (ys.length) (e)] w (Ret (fun v w' => v = .bool (decide (xs = ys)) ∧ Ext w w')) := by
  refine calls_run (n := 26) Tryz.func50 rfl rfl rfl ?_
  refine Run.seq ?_
  refine Run.region ?_
  refine RL.val (x_assignB rfl) ?_
  refine RL.nil ?_
  refine Run.seq ?_
  refine Run.seq ?_
  refine Run.region ?_
  refine RL.val (x_moveSl rfl) ?_
  refine RL.val (x_lenSl Tryz.underlying55 rfl) ?_
  refine RL.val (x_moveSl rfl) ?_
  refine RL.val (x_lenSl Tryz.underlying55 rfl) ?_
  refine RL.val (x_neI rfl rfl) ?_
  refine RL.nil ?_
  refine Run.cond rfl (fun hc10 => ?_) (fun hc10 => ?_)
  · try simp only [br] at hc10
    refine Run.seq ?_
    refine Run.region ?_
    refine RL.val (x_assignB rfl) ?_
    refine RL.nil ?_
    refine Run.ret1 (v := .bool (false)) Tryz.func50 rfl rfl ?_
    exact ⟨_, rfl, by rw [decide_eq_false (fun h => hc10 (by rw [h]))], (Keeps.refl _ w)⟩
  · try simp only [br] at hc10
    have hlen : xs.length = ys.length := by omega
    refine Run.skip ?_
    refine Run.seq ?_
    refine Run.seq ?_
    refine Run.region ?_
    refine RL.val (x_moveSl rfl) ?_
    refine RL.val (x_lenSl Tryz.underlying55 rfl) ?_
    refine RL.val (x_moveI rfl) ?_
    refine RL.nil ?_
    refine Run.block ?_
    refine Run.loop (ι := Nat) (fun i ρ' w' => Holds ρ' [(0, .slice (a) (xs.length) (c)), (1, .slice (d) (ys.length) (e)), (12, .int .i64 (((xs.length : Nat) : Int))), (13, .int .i64 (((i : Nat) : Int)))] ∧ Ext w w' ∧ (i ≤ xs.length) ∧ (SameB xs ys i)) (fun i => xs.length - i) 0 ?_ ?_
    · refine ⟨⟨rfl, rfl, rfl, rfl, trivial⟩, (Keeps.refl _ w), ?_, ?_⟩
      · omega
      · exact SameB.zero _ _
    rintro i ρ_3 w_1 ⟨hH_2, K0, hi, hno⟩ ih1
    obtain ⟨ρ₀, rfl⟩ := hH_2.ex
    clear hH_2
    refine Run.seq ?_
    refine Run.region ?_
    refine RL.val (x_ltI rfl rfl) ?_
    refine RL.nil ?_
    refine Run.seq ?_
    refine Run.cond rfl (fun hc14 => ?_) (fun hc14 => ?_)
    · try simp only [br] at hc14
      refine Run.skip ?_
      refine Run.seq ?_
      refine Run.block ?_
      refine Run.seq ?_
      refine Run.region ?_
      refine RL.val (x_moveI rfl) ?_
      refine RL.val (x_assignI rfl) ?_
      refine RL.nil ?_
      refine Run.seq ?_
      obtain ⟨b_6, o_7, x, hx, ha_8, hc_9⟩ := hs.el (i := i) (by first | omega | (simp only [List.length_set]; omega))
      have hc_9_lt := hc_9.lt
      replace hc_9 := hc_9.ext K0
      obtain ⟨b_12, o_13, y, hy, ha_14, hc_15⟩ := ht.el (i := i) (by first | omega | (simp only [List.length_set]; omega))
      have hc_15_lt := hc_15.lt
      replace hc_15 := hc_15.ext K0
      refine Run.draw' (m := 9) (by kernel_rfl) rfl ?_
      intro w_4 K_5
      replace hc_9 := hc_9.ext K_5
      replace hc_15 := hc_15.ext K_5
      replace K0 := K0.ext K_5
      refine RA.take (v := .slice (a) (xs.length) (c)) 0 rfl (by kernel_rfl) rfl (by rintro _ rfl; exact (x_moveSl rfl)) ?_
      refine RA.take (v := .int .i64 (((i : Nat) : Int))) 1 rfl (by kernel_rfl) rfl (by rintro _ rfl; exact (x_moveI rfl)) ?_
      refine RA.take (v := .pointer (some ⟨b_6, o_7 + i * 3, none⟩)) 2 rfl (by kernel_rfl) rfl (by rintro _ rfl; exact (x_idxN Tryz.underlying55 ty90 rfl rfl ha_8 (by first | omega | (simp only [List.length_set]; omega)))) ?_
      refine RA.take (v := .agg #[.int .i64 ((x).place), .string ((x).key), .int .u64 ((x).hash)]) 3 rfl (by kernel_rfl) rfl (by rintro _ rfl; exact (x_ldV (v := .agg #[.int .i64 ((x).place), .string ((x).key), .int .u64 ((x).hash)]) (y := x) ty90 rfl hc_9 rfl)) ?_
      refine RA.take (v := .slice (d) (ys.length) (e)) 4 rfl (by kernel_rfl) rfl (by rintro _ rfl; exact (x_moveSl rfl)) ?_
      refine RA.take (v := .int .i64 (((i : Nat) : Int))) 5 rfl (by kernel_rfl) rfl (by rintro _ rfl; exact (x_moveI rfl)) ?_
      refine RA.take (v := .pointer (some ⟨b_12, o_13 + i * 3, none⟩)) 6 rfl (by kernel_rfl) rfl (by rintro _ rfl; exact (x_idxN Tryz.underlying55 ty90 rfl rfl ha_14 (by first | omega | (simp only [List.length_set]; omega)))) ?_
      refine RA.take (v := .agg #[.int .i64 ((y).place), .string ((y).key), .int .u64 ((y).hash)]) 7 rfl (by kernel_rfl) rfl (by rintro _ rfl; exact (x_ldV (v := .agg #[.int .i64 ((y).place), .string ((y).key), .int .u64 ((y).hash)]) (y := y) ty90 rfl hc_15 rfl)) ?_
      refine RA.take (v := .bool (!decide (x = y))) 8 rfl (by kernel_rfl) rfl (by rintro _ rfl; exact (x_neA (by kernel_rfl) rfl rfl (eq_SumC x y))) ?_
      refine RA.done (by kernel_rfl) ?_
      refine Run.cond rfl (fun hc24 => ?_) (fun hc24 => ?_)
      · try simp only [br] at hc24
        refine Run.seq ?_
        refine Run.region ?_
        refine RL.val (x_assignB rfl) ?_
        refine RL.nil ?_
        refine Run.ret1 (v := .bool (false)) Tryz.func50 rfl rfl ?_
        exact ⟨_, rfl, by rw [decide_eq_false (ne_of_at hx hy hc24)], K0⟩
      · try simp only [br] at hc24
        refine Run.skip ?_
        refine Run.inBlock ?_
        refine Run.region ?_
        refine RL.val (litI (c := ((i + 1 : Nat) : Int)) (x_add rfl rfl (by omega) (by omega)) rfl) ?_
        refine RL.val (x_moveI rfl) ?_
        refine RL.nil ?_
        refine ih1 (i + 1) _ _ ?_ (by omega)
        refine ⟨⟨rfl, rfl, rfl, rfl, trivial⟩, K0, ?_, ?_⟩
        · omega
        · exact hno.step hx hy hc24
    · try simp only [br] at hc14
      refine Run.exit rfl ?_
      refine Run.seq ?_
      refine Run.region ?_
      refine RL.val (x_assignB rfl) ?_
      refine RL.nil ?_
      refine Run.ret1 (v := .bool (true)) Tryz.func50 rfl rfl ?_
      exact ⟨_, rfl, by rw [decide_eq_true (hno.all hlen (by omega))], K0⟩

set_option maxRecDepth 100000 in
set_option maxHeartbeats 4000000 in
theorem clone_su (a : Option Addr) (xs : List SumC) (c : Nat) (w : World) (hs : SlOf w a xs) (hl : xs.length ≤ 4294967295) :
    Calls Tryz.prog 68 #[.slice (a) (xs.length) (c)] w (Ret (fun v w' => ∃ a' c', v = .slice a' xs.length c' ∧ OwnSl w' 90 a' c' xs ∧ (∀ b, own a' b → w.heap.size ≤ b) ∧ Ext w w')) := by
  refine calls_run (n := 8) Tryz.func68 rfl rfl rfl ?_
  refine Run.seq ?_
  refine Run.region ?_
  refine RL.val (x_assignSl rfl) ?_
  refine RL.nil ?_
  refine Run.seq ?_
  refine Run.seq ?_
  refine Run.region ?_
  refine RL.val (x_moveSl rfl) ?_
  refine RL.val (x_slNil Tryz.underlying55 rfl rfl) ?_
  refine RL.nil ?_
  refine Run.cond rfl (fun hc4 => ?_) (fun hc4 => ?_)
  · skip
    refine Run.seq ?_
    refine Run.region ?_
    refine RL.val (x_assignSl rfl) ?_
    refine RL.nil ?_
    refine Run.ret1 (v := .slice (none) (0) (0)) Tryz.func68 rfl rfl ?_
    have hx := hs.nil_of hc4; subst hx; exact ⟨_, rfl, none, 0, rfl, OwnSl.nil _ _, fun b h => absurd h (own_none b), (Keeps.refl _ w)⟩
  · skip
    refine Run.skip ?_
    refine Run.seq ?_
    refine Run.region ?_
    refine RL.st rfl <| St1.buildSlice ([] : List SumC) Tryz.underlying55 ty90 rfl rfl (by first | decide | (simp [Enc.size])) ?_
    intro b_1 w_2 hl_5 ho_4 K_3
    have pg_6 : ∀ q_, own (some ⟨b_1, 0, none⟩) q_ → w.heap.size ≤ q_ := fun q_ h => Nat.le_trans (Nat.le_refl _) ((ge_new hl_5) q_ h)
    clear hl_5
    have K0 := (K_3 : Ext w _)
    refine RL.val (x_moveSl rfl) ?_
    refine RL.st rfl <| St1.append (xs := ([] : List SumC)) (ys := xs) Tryz.underlying55 ty90 rfl rfl rfl ho_4 (hs.ext K0) (by first | omega | (simp only [lr]; omega)) (by decide) ?_
    intro a_7 c_8 w_9 ho_10 K_11 hm_12 hrm_13
    have pg_14 : ∀ q_, own a_7 q_ → w.heap.size ≤ q_ := hm_12.ge pg_6 K0.size
    replace K0 := K0.new K_11 pg_6
    clear hm_12
    clear hrm_13
    refine RL.val (x_assignSl rfl) ?_
    refine RL.nil ?_
    refine Run.ret1 (v := .slice (a_7) ((([] : List SumC) ++ xs).length) (c_8)) Tryz.func68 rfl rfl ?_
    exact ⟨_, rfl, a_7, c_8, by rw [List.nil_append], by simpa using ho_10, pg_14, K0⟩

set_option maxRecDepth 100000 in
set_option maxHeartbeats 4000000 in
theorem sameContext_ (a b : MV) (s t : Six) (w : World) (hR : SixR w s a) (hQ : SixR w t b) (hv : VOk a) :
    Calls Tryz.prog 72 #[.agg #[.slice (s.ma) (a.mrk.length) (s.mc), .slice (s.ca) (a.cl.length) (s.cc)], .agg #[.slice (t.ma) (b.mrk.length) (t.mc), .slice (t.ca) (b.cl.length) (t.cc)]] w (Ret (fun v w' => v = .bool (sameCtx a b) ∧ Ext w w')) := by
  have hv0 := hv
  obtain ⟨hv1, hv2, hv3, hv4, hv5, hv6⟩ := hv
  refine calls_run (n := 17) Tryz.func72 rfl rfl rfl ?_
  refine Run.seq ?_
  refine Run.region ?_
  refine RL.st rfl <| St1.box (v := .agg #[.slice (s.ma) (a.mrk.length) (s.mc), .slice (s.ca) (a.cl.length) (s.cc)]) rfl ?_
  intro b_1 w_2 hl_5 hb_4 K_3
  replace hb_4 : Blk w_2 b_1 [.slice (s.ma) (a.mrk.length) (s.mc), .slice (s.ca) (a.cl.length) (s.cc)] 48 := hb_4
  have pr_6 : ¬ rdS s a b_1 := fun h => absurd (hR.own_lt _ h) (by omega)
  have pr_7 : ¬ rdS t b b_1 := fun h => absurd (hQ.own_lt _ h) (by omega)
  have : w.heap.size ≤ b_1 := hl_5
  clear hl_5
  replace hR := hR.ext K_3
  replace hQ := hQ.ext K_3
  have K0 := (K_3 : Ext w _)
  refine RL.st rfl <| St1.box (v := .agg #[.slice (t.ma) (b.mrk.length) (t.mc), .slice (t.ca) (b.cl.length) (t.cc)]) rfl ?_
  intro b_8 w_9 hl_12 hb_11 K_10
  replace hb_11 : Blk w_9 b_8 [.slice (t.ma) (b.mrk.length) (t.mc), .slice (t.ca) (b.cl.length) (t.cc)] 48 := hb_11
  have ne_13 : b_1 < b_8 := Nat.lt_of_lt_of_le hb_4.lt hl_12
  have pr_14 : ¬ rdS s a b_8 := fun h => absurd (hR.own_lt _ h) (by omega)
  have pr_15 : ¬ rdS t b b_8 := fun h => absurd (hQ.own_lt _ h) (by omega)
  have : w.heap.size ≤ b_8 := Nat.le_trans K0.size hl_12
  clear hl_12
  replace hR := hR.ext K_10
  replace hQ := hQ.ext K_10
  replace hb_4 := hb_4.ext K_10
  replace K0 := K0.ext K_10
  refine RL.val (x_assignB rfl) ?_
  refine RL.nil ?_
  refine Run.seq ?_
  refine Run.region ?_
  refine RL.val (x_fld (o' := 0) Tryz.underlying48 rfl ty45 rfl rfl rfl) ?_
  refine RL.val (x_ld (v := .slice (s.ma) (a.mrk.length) (s.mc)) ty45 rfl rfl (hb_4.cl.field (i := 0) rfl)) ?_
  refine RL.val (x_fld (o' := 0) Tryz.underlying48 rfl ty45 rfl rfl rfl) ?_
  refine RL.val (x_ld (v := .slice (t.ma) (b.mrk.length) (t.mc)) ty45 rfl rfl (hb_11.cl.field (i := 0) rfl)) ?_
  refine RL.st rfl <| St1.call (vals := [.slice (s.ma) (a.mrk.length) (s.mc), .slice (t.ma) (b.mrk.length) (t.mc)]) en79 rfl (equal_mrk _ _ _ _ _ _ _ (hR).mrk (hQ).mrk (by omega)) ?_
  rintro _ w_16 ⟨rfl, K_17⟩
  replace hR := hR.ext K_17
  replace hQ := hQ.ext K_17
  replace hb_4 := hb_4.ext K_17
  replace hb_11 := hb_11.ext K_17
  replace K0 := K0.ext K_17
  refine RL.val (x_moveB rfl) ?_
  refine RL.gval (wantedT rfl rfl rfl rfl) (fun hg => (x_fld (o' := 1) Tryz.underlying48 rfl ty46 rfl rfl rfl)) ?_
  refine RL.gval (wantedT rfl rfl rfl rfl) (fun hg => (x_ld (v := .slice (s.ca) (a.cl.length) (s.cc)) ty46 (gvr hg) rfl (hb_4.cl.field (i := 1) rfl))) ?_
  refine RL.gval (wantedT rfl rfl rfl rfl) (fun hg => (x_fld (o' := 1) Tryz.underlying48 rfl ty46 rfl rfl rfl)) ?_
  refine RL.gval (wantedT rfl rfl rfl rfl) (fun hg => (x_ld (v := .slice (t.ca) (b.cl.length) (t.cc)) ty46 (gvr hg) rfl (hb_11.cl.field (i := 1) rfl))) ?_
  refine RL.gcall (vals := [.slice (s.ca) (a.cl.length) (s.cc), .slice (t.ca) (b.cl.length) (t.cc)]) (wantedT rfl rfl rfl rfl) en80 (fun hg => (mcons (gvr hg) (mcons (gvr hg) mnil))) (fun hg => (equal_cl _ _ _ _ _ _ _ (hR).cl (hQ).cl (by omega))) ?_
  intro w_18 K_19
  replace hR := hR.ext K_19
  replace hQ := hQ.ext K_19
  replace hb_4 := hb_4.ext K_19
  replace hb_11 := hb_11.ext K_19
  replace K0 := K0.ext K_19
  refine RL.val (x_and rfl rfl rfl) ?_
  refine RL.val (x_assignB rfl) ?_
  refine RL.nil ?_
  refine Run.ret1 (v := .bool ((decide (a.mrk = b.mrk)) && (decide (a.cl = b.cl)))) Tryz.func72 rfl rfl ?_
  exact ⟨_, rfl, rfl, K0⟩

set_option maxRecDepth 100000 in
set_option maxHeartbeats 4000000 in
theorem sameCart_ (a b : MV) (s t : Six) (w : World) (hR : SixR w s a) (hQ : SixR w t b) (hv : VOk a) :
    Calls Tryz.prog 47 #[.agg #[.slice (s.ea) (a.ent.length) (s.ec), .slice (s.ma) (a.mrk.length) (s.mc), .slice (s.ca) (a.cl.length) (s.cc)], .agg #[.slice (t.ea) (b.ent.length) (t.ec), .slice (t.ma) (b.mrk.length) (t.mc), .slice (t.ca) (b.cl.length) (t.cc)]] w (Ret (fun v w' => v = .bool (sameCart a b) ∧ Ext w w')) := by
  have hv0 := hv
  obtain ⟨hv1, hv2, hv3, hv4, hv5, hv6⟩ := hv
  refine calls_run (n := 17) Tryz.func47 rfl rfl rfl ?_
  refine Run.seq ?_
  refine Run.region ?_
  refine RL.st rfl <| St1.box (v := .agg #[.slice (s.ea) (a.ent.length) (s.ec), .slice (s.ma) (a.mrk.length) (s.mc), .slice (s.ca) (a.cl.length) (s.cc)]) rfl ?_
  intro b_1 w_2 hl_5 hb_4 K_3
  replace hb_4 : Blk w_2 b_1 [.slice (s.ea) (a.ent.length) (s.ec), .slice (s.ma) (a.mrk.length) (s.mc), .slice (s.ca) (a.cl.length) (s.cc)] 50 := hb_4
  have pr_6 : ¬ rdS s a b_1 := fun h => absurd (hR.own_lt _ h) (by omega)
  have pr_7 : ¬ rdS t b b_1 := fun h => absurd (hQ.own_lt _ h) (by omega)
  have : w.heap.size ≤ b_1 := hl_5
  clear hl_5
  replace hR := hR.ext K_3
  replace hQ := hQ.ext K_3
  have K0 := (K_3 : Ext w _)
  refine RL.st rfl <| St1.box (v := .agg #[.slice (t.ea) (b.ent.length) (t.ec), .slice (t.ma) (b.mrk.length) (t.mc), .slice (t.ca) (b.cl.length) (t.cc)]) rfl ?_
  intro b_8 w_9 hl_12 hb_11 K_10
  replace hb_11 : Blk w_9 b_8 [.slice (t.ea) (b.ent.length) (t.ec), .slice (t.ma) (b.mrk.length) (t.mc), .slice (t.ca) (b.cl.length) (t.cc)] 50 := hb_11
  have ne_13 : b_1 < b_8 := Nat.lt_of_lt_of_le hb_4.lt hl_12
  have pr_14 : ¬ rdS s a b_8 := fun h => absurd (hR.own_lt _ h) (by omega)
  have pr_15 : ¬ rdS t b b_8 := fun h => absurd (hQ.own_lt _ h) (by omega)
  have : w.heap.size ≤ b_8 := Nat.le_trans K0.size hl_12
  clear hl_12
  replace hR := hR.ext K_10
  replace hQ := hQ.ext K_10
  replace hb_4 := hb_4.ext K_10
  replace K0 := K0.ext K_10
  refine RL.val (x_assignB rfl) ?_
  refine RL.nil ?_
  refine Run.seq ?_
  refine Run.region ?_
  refine RL.val (x_fld (o' := 0) Tryz.underlying50 rfl ty44 rfl rfl rfl) ?_
  refine RL.val (x_ld (v := .slice (s.ea) (a.ent.length) (s.ec)) ty44 rfl rfl (hb_4.cl.field (i := 0) rfl)) ?_
  refine RL.val (x_fld (o' := 0) Tryz.underlying50 rfl ty44 rfl rfl rfl) ?_
  refine RL.val (x_ld (v := .slice (t.ea) (b.ent.length) (t.ec)) ty44 rfl rfl (hb_11.cl.field (i := 0) rfl)) ?_
  refine RL.st rfl <| St1.call (vals := [.slice (s.ea) (a.ent.length) (s.ec), .slice (t.ea) (b.ent.length) (t.ec)]) en71 rfl (equal_ent _ _ _ _ _ _ _ (hR).ent (hQ).ent (by omega)) ?_
  rintro _ w_16 ⟨rfl, K_17⟩
  replace hR := hR.ext K_17
  replace hQ := hQ.ext K_17
  replace hb_4 := hb_4.ext K_17
  replace hb_11 := hb_11.ext K_17
  replace K0 := K0.ext K_17
  refine RL.val (x_moveB rfl) ?_
  refine RL.gval (wantedT rfl rfl rfl rfl) (fun hg => (x_fld (o' := 1) Tryz.underlying50 rfl ty48 rfl rfl rfl)) ?_
  refine RL.gval (wantedT rfl rfl rfl rfl) (fun hg => (x_lds (cs := #[.slice (s.ma) (a.mrk.length) (s.mc), .slice (s.ca) (a.cl.length) (s.cc)]) ty48 (gvr hg) rfl (hb_4.cl.drop 1 2))) ?_
  refine RL.gval (wantedT rfl rfl rfl rfl) (fun hg => (x_fld (o' := 1) Tryz.underlying50 rfl ty48 rfl rfl rfl)) ?_
  refine RL.gval (wantedT rfl rfl rfl rfl) (fun hg => (x_lds (cs := #[.slice (t.ma) (b.mrk.length) (t.mc), .slice (t.ca) (b.cl.length) (t.cc)]) ty48 (gvr hg) rfl (hb_11.cl.drop 1 2))) ?_
  refine RL.gcall (vals := [.agg #[.slice (s.ma) (a.mrk.length) (s.mc), .slice (s.ca) (a.cl.length) (s.cc)], .agg #[.slice (t.ma) (b.mrk.length) (t.mc), .slice (t.ca) (b.cl.length) (t.cc)]]) (wantedT rfl rfl rfl rfl) en72 (fun hg => (mcons (gvr hg) (mcons (gvr hg) mnil))) (fun hg => (sameContext_ a b s t _ hR hQ (by assumption))) ?_
  intro w_18 K_19
  replace hR := hR.ext K_19
  replace hQ := hQ.ext K_19
  replace hb_4 := hb_4.ext K_19
  replace hb_11 := hb_11.ext K_19
  replace K0 := K0.ext K_19
  refine RL.val (x_and rfl rfl rfl) ?_
  refine RL.val (x_assignB rfl) ?_
  refine RL.nil ?_
  refine Run.ret1 (v := .bool ((decide (a.ent = b.ent)) && (sameCtx a b))) Tryz.func47 rfl rfl ?_
  exact ⟨_, rfl, rfl, K0⟩

set_option maxRecDepth 100000 in
set_option maxHeartbeats 4000000 in
theorem sameRing_ (a b : MV) (s t : Six) (w : World) (hR : SixR w s a) (hQ : SixR w t b) (hv : VOk a) :
    Calls Tryz.prog 48 #[.agg #[.int .i64 (((mkC a s).ring).parts), .int .i64 (((mkC a s).ring).copies), .int .i64 (((mkC a s).ring).spots), .slice (s.ba) (a.mem.length) (s.bc)], .agg #[.int .i64 (((mkC b t).ring).parts), .int .i64 (((mkC b t).ring).copies), .int .i64 (((mkC b t).ring).spots), .slice (t.ba) (b.mem.length) (t.bc)]] w (Ret (fun v w' => v = .bool (sameRing a b) ∧ Ext w w')) := by
  have hv0 := hv
  obtain ⟨hv1, hv2, hv3, hv4, hv5, hv6⟩ := hv
  refine calls_run (n := 31) Tryz.func48 rfl rfl rfl ?_
  refine Run.seq ?_
  refine Run.region ?_
  refine RL.st rfl <| St1.box (v := .agg #[.int .i64 (((mkC a s).ring).parts), .int .i64 (((mkC a s).ring).copies), .int .i64 (((mkC a s).ring).spots), .slice (s.ba) (a.mem.length) (s.bc)]) rfl ?_
  intro b_1 w_2 hl_5 hb_4 K_3
  replace hb_4 : Blk w_2 b_1 [.int .i64 (((mkC a s).ring).parts), .int .i64 (((mkC a s).ring).copies), .int .i64 (((mkC a s).ring).spots), .slice (s.ba) (a.mem.length) (s.bc)] 53 := hb_4
  have pr_6 : ¬ rdS s a b_1 := fun h => absurd (hR.own_lt _ h) (by omega)
  have pr_7 : ¬ rdS t b b_1 := fun h => absurd (hQ.own_lt _ h) (by omega)
  have : w.heap.size ≤ b_1 := hl_5
  clear hl_5
  replace hR := hR.ext K_3
  replace hQ := hQ.ext K_3
  have K0 := (K_3 : Ext w _)
  refine RL.st rfl <| St1.box (v := .agg #[.int .i64 (((mkC b t).ring).parts), .int .i64 (((mkC b t).ring).copies), .int .i64 (((mkC b t).ring).spots), .slice (t.ba) (b.mem.length) (t.bc)]) rfl ?_
  intro b_8 w_9 hl_12 hb_11 K_10
  replace hb_11 : Blk w_9 b_8 [.int .i64 (((mkC b t).ring).parts), .int .i64 (((mkC b t).ring).copies), .int .i64 (((mkC b t).ring).spots), .slice (t.ba) (b.mem.length) (t.bc)] 53 := hb_11
  have ne_13 : b_1 < b_8 := Nat.lt_of_lt_of_le hb_4.lt hl_12
  have pr_14 : ¬ rdS s a b_8 := fun h => absurd (hR.own_lt _ h) (by omega)
  have pr_15 : ¬ rdS t b b_8 := fun h => absurd (hQ.own_lt _ h) (by omega)
  have : w.heap.size ≤ b_8 := Nat.le_trans K0.size hl_12
  clear hl_12
  replace hR := hR.ext K_10
  replace hQ := hQ.ext K_10
  replace hb_4 := hb_4.ext K_10
  replace K0 := K0.ext K_10
  refine RL.val (x_assignB rfl) ?_
  refine RL.nil ?_
  refine Run.seq ?_
  refine Run.region ?_
  refine RL.val (x_fld (o' := 0) Tryz.underlying53 rfl ty3 rfl rfl rfl) ?_
  refine RL.val (x_ld (v := .int .i64 (((mkC a s).ring).parts)) ty3 rfl rfl (hb_4.cl.field (i := 0) rfl)) ?_
  refine RL.val (x_fld (o' := 0) Tryz.underlying53 rfl ty3 rfl rfl rfl) ?_
  refine RL.val (x_ld (v := .int .i64 (((mkC b t).ring).parts)) ty3 rfl rfl (hb_11.cl.field (i := 0) rfl)) ?_
  refine RL.val (x_eqI rfl rfl) ?_
  refine RL.val (x_moveB rfl) ?_
  refine RL.gval (wantedT rfl rfl rfl rfl) (fun hg => (x_fld (o' := 1) Tryz.underlying53 rfl ty3 rfl rfl rfl)) ?_
  refine RL.gval (wantedT rfl rfl rfl rfl) (fun hg => (x_ld (v := .int .i64 (((mkC a s).ring).copies)) ty3 (gvr hg) rfl (hb_4.cl.field (i := 1) rfl))) ?_
  refine RL.gval (wantedT rfl rfl rfl rfl) (fun hg => (x_fld (o' := 1) Tryz.underlying53 rfl ty3 rfl rfl rfl)) ?_
  refine RL.gval (wantedT rfl rfl rfl rfl) (fun hg => (x_ld (v := .int .i64 (((mkC b t).ring).copies)) ty3 (gvr hg) rfl (hb_11.cl.field (i := 1) rfl))) ?_
  refine RL.gval (wantedT rfl rfl rfl rfl) (fun hg => (x_eqI (gvr hg) (gvr hg))) ?_
  refine RL.val (x_and rfl rfl rfl) ?_
  refine RL.val (x_moveB rfl) ?_
  refine RL.gval (wantedT rfl rfl rfl rfl) (fun hg => (x_fld (o' := 2) Tryz.underlying53 rfl ty3 rfl rfl rfl)) ?_
  refine RL.gval (wantedT rfl rfl rfl rfl) (fun hg => (x_ld (v := .int .i64 (((mkC a s).ring).spots)) ty3 (gvr hg) rfl (hb_4.cl.field (i := 2) rfl))) ?_
  refine RL.gval (wantedT rfl rfl rfl rfl) (fun hg => (x_fld (o' := 2) Tryz.underlying53 rfl ty3 rfl rfl rfl)) ?_
  refine RL.gval (wantedT rfl rfl rfl rfl) (fun hg => (x_ld (v := .int .i64 (((mkC b t).ring).spots)) ty3 (gvr hg) rfl (hb_11.cl.field (i := 2) rfl))) ?_
  refine RL.gval (wantedT rfl rfl rfl rfl) (fun hg => (x_eqI (gvr hg) (gvr hg))) ?_
  refine RL.val (x_and rfl rfl rfl) ?_
  refine RL.val (x_moveB rfl) ?_
  refine RL.gval (wantedT rfl rfl rfl rfl) (fun hg => (x_fld (o' := 3) Tryz.underlying53 rfl ty51 rfl rfl rfl)) ?_
  refine RL.gval (wantedT rfl rfl rfl rfl) (fun hg => (x_ld (v := .slice (s.ba) (a.mem.length) (s.bc)) ty51 (gvr hg) rfl (hb_4.cl.field (i := 3) rfl))) ?_
  refine RL.gval (wantedT rfl rfl rfl rfl) (fun hg => (x_fld (o' := 3) Tryz.underlying53 rfl ty51 rfl rfl rfl)) ?_
  refine RL.gval (wantedT rfl rfl rfl rfl) (fun hg => (x_ld (v := .slice (t.ba) (b.mem.length) (t.bc)) ty51 (gvr hg) rfl (hb_11.cl.field (i := 3) rfl))) ?_
  refine RL.gcall (vals := [.slice (s.ba) (a.mem.length) (s.bc), .slice (t.ba) (b.mem.length) (t.bc)]) (wantedT rfl rfl rfl rfl) en73 (fun hg => (mcons (gvr hg) (mcons (gvr hg) mnil))) (fun hg => (equal_mem _ _ _ _ _ _ _ (hR).mem (hQ).mem (by omega))) ?_
  intro w_16 K_17
  replace hR := hR.ext K_17
  replace hQ := hQ.ext K_17
  replace hb_4 := hb_4.ext K_17
  replace hb_11 := hb_11.ext K_17
  replace K0 := K0.ext K_17
  refine RL.val (x_and rfl rfl rfl) ?_
  refine RL.val (x_assignB rfl) ?_
  refine RL.nil ?_
  refine Run.ret1 (v := .bool (((((((mkC a s).ring).parts) == (((mkC b t).ring).parts)) && ((((mkC a s).ring).copies) == (((mkC b t).ring).copies))) && ((((mkC a s).ring).spots) == (((mkC b t).ring).spots))) && (decide (a.mem = b.mem)))) Tryz.func48 rfl rfl ?_
  exact ⟨_, rfl, rfl, K0⟩

set_option maxRecDepth 100000 in
set_option maxHeartbeats 4000000 in
theorem sameMsg_ (a b : MV) (s t : Six) (w : World) (hR : SixR w s a) (hQ : SixR w t b) (hv : VOk a) :
    Calls Tryz.prog 19 #[.agg #[.int .i64 (((mkC a s)).kind), .int .i64 (((mkC a s)).frm), .int .i64 (((mkC a s)).to), .int .i64 (((mkC a s)).req), .string (((mkC a s)).key), .slice (s.ea) (a.ent.length) (s.ec), .slice (s.ma) (a.mrk.length) (s.mc), .slice (s.ca) (a.cl.length) (s.cc), .int .i64 (((mkC a s)).owner), .int .i64 (((mkC a s)).part), .int .i64 (((mkC a s)).n), .int .i64 ((((mkC a s)).ring).parts), .int .i64 ((((mkC a s)).ring).copies), .int .i64 ((((mkC a s)).ring).spots), .slice (s.ba) (a.mem.length) (s.bc), .slice (s.pa) (a.pe.length) (s.pc), .slice (s.sa) (a.su.length) (s.sc)], .agg #[.int .i64 (((mkC b t)).kind), .int .i64 (((mkC b t)).frm), .int .i64 (((mkC b t)).to), .int .i64 (((mkC b t)).req), .string (((mkC b t)).key), .slice (t.ea) (b.ent.length) (t.ec), .slice (t.ma) (b.mrk.length) (t.mc), .slice (t.ca) (b.cl.length) (t.cc), .int .i64 (((mkC b t)).owner), .int .i64 (((mkC b t)).part), .int .i64 (((mkC b t)).n), .int .i64 ((((mkC b t)).ring).parts), .int .i64 ((((mkC b t)).ring).copies), .int .i64 ((((mkC b t)).ring).spots), .slice (t.ba) (b.mem.length) (t.bc), .slice (t.pa) (b.pe.length) (t.pc), .slice (t.sa) (b.su.length) (t.sc)]] w (Ret (fun v w' => v = .bool (decide (a = b)) ∧ Ext w w')) := by
  have hv0 := hv
  obtain ⟨hv1, hv2, hv3, hv4, hv5, hv6⟩ := hv
  refine calls_run (n := 85) Tryz.func19 rfl rfl rfl ?_
  refine Run.seq ?_
  refine Run.region ?_
  refine RL.st rfl <| St1.box (v := .agg #[.int .i64 (((mkC a s)).kind), .int .i64 (((mkC a s)).frm), .int .i64 (((mkC a s)).to), .int .i64 (((mkC a s)).req), .string (((mkC a s)).key), .slice (s.ea) (a.ent.length) (s.ec), .slice (s.ma) (a.mrk.length) (s.mc), .slice (s.ca) (a.cl.length) (s.cc), .int .i64 (((mkC a s)).owner), .int .i64 (((mkC a s)).part), .int .i64 (((mkC a s)).n), .int .i64 ((((mkC a s)).ring).parts), .int .i64 ((((mkC a s)).ring).copies), .int .i64 ((((mkC a s)).ring).spots), .slice (s.ba) (a.mem.length) (s.bc), .slice (s.pa) (a.pe.length) (s.pc), .slice (s.sa) (a.su.length) (s.sc)]) rfl ?_
  intro b_1 w_2 hl_5 hb_4 K_3
  replace hb_4 : Blk w_2 b_1 [.int .i64 (((mkC a s)).kind), .int .i64 (((mkC a s)).frm), .int .i64 (((mkC a s)).to), .int .i64 (((mkC a s)).req), .string (((mkC a s)).key), .slice (s.ea) (a.ent.length) (s.ec), .slice (s.ma) (a.mrk.length) (s.mc), .slice (s.ca) (a.cl.length) (s.cc), .int .i64 (((mkC a s)).owner), .int .i64 (((mkC a s)).part), .int .i64 (((mkC a s)).n), .int .i64 ((((mkC a s)).ring).parts), .int .i64 ((((mkC a s)).ring).copies), .int .i64 ((((mkC a s)).ring).spots), .slice (s.ba) (a.mem.length) (s.bc), .slice (s.pa) (a.pe.length) (s.pc), .slice (s.sa) (a.su.length) (s.sc)] 57 := hb_4
  have pr_6 : ¬ rdS s a b_1 := fun h => absurd (hR.own_lt _ h) (by omega)
  have pr_7 : ¬ rdS t b b_1 := fun h => absurd (hQ.own_lt _ h) (by omega)
  have : w.heap.size ≤ b_1 := hl_5
  clear hl_5
  replace hR := hR.ext K_3
  replace hQ := hQ.ext K_3
  have K0 := (K_3 : Ext w _)
  refine RL.st rfl <| St1.box (v := .agg #[.int .i64 (((mkC b t)).kind), .int .i64 (((mkC b t)).frm), .int .i64 (((mkC b t)).to), .int .i64 (((mkC b t)).req), .string (((mkC b t)).key), .slice (t.ea) (b.ent.length) (t.ec), .slice (t.ma) (b.mrk.length) (t.mc), .slice (t.ca) (b.cl.length) (t.cc), .int .i64 (((mkC b t)).owner), .int .i64 (((mkC b t)).part), .int .i64 (((mkC b t)).n), .int .i64 ((((mkC b t)).ring).parts), .int .i64 ((((mkC b t)).ring).copies), .int .i64 ((((mkC b t)).ring).spots), .slice (t.ba) (b.mem.length) (t.bc), .slice (t.pa) (b.pe.length) (t.pc), .slice (t.sa) (b.su.length) (t.sc)]) rfl ?_
  intro b_8 w_9 hl_12 hb_11 K_10
  replace hb_11 : Blk w_9 b_8 [.int .i64 (((mkC b t)).kind), .int .i64 (((mkC b t)).frm), .int .i64 (((mkC b t)).to), .int .i64 (((mkC b t)).req), .string (((mkC b t)).key), .slice (t.ea) (b.ent.length) (t.ec), .slice (t.ma) (b.mrk.length) (t.mc), .slice (t.ca) (b.cl.length) (t.cc), .int .i64 (((mkC b t)).owner), .int .i64 (((mkC b t)).part), .int .i64 (((mkC b t)).n), .int .i64 ((((mkC b t)).ring).parts), .int .i64 ((((mkC b t)).ring).copies), .int .i64 ((((mkC b t)).ring).spots), .slice (t.ba) (b.mem.length) (t.bc), .slice (t.pa) (b.pe.length) (t.pc), .slice (t.sa) (b.su.length) (t.sc)] 57 := hb_11
  have ne_13 : b_1 < b_8 := Nat.lt_of_lt_of_le hb_4.lt hl_12
  have pr_14 : ¬ rdS s a b_8 := fun h => absurd (hR.own_lt _ h) (by omega)
  have pr_15 : ¬ rdS t b b_8 := fun h => absurd (hQ.own_lt _ h) (by omega)
  have : w.heap.size ≤ b_8 := Nat.le_trans K0.size hl_12
  clear hl_12
  replace hR := hR.ext K_10
  replace hQ := hQ.ext K_10
  replace hb_4 := hb_4.ext K_10
  replace K0 := K0.ext K_10
  refine RL.val (x_assignB rfl) ?_
  refine RL.nil ?_
  refine Run.seq ?_
  refine Run.seq ?_
  refine Run.region ?_
  refine RL.val (x_fld (o' := 0) Tryz.underlying57 rfl ty3 rfl rfl rfl) ?_
  refine RL.val (x_ld (v := .int .i64 (((mkC a s)).kind)) ty3 rfl rfl (hb_4.cl.field (i := 0) rfl)) ?_
  refine RL.val (x_fld (o' := 0) Tryz.underlying57 rfl ty3 rfl rfl rfl) ?_
  refine RL.val (x_ld (v := .int .i64 (((mkC b t)).kind)) ty3 rfl rfl (hb_11.cl.field (i := 0) rfl)) ?_
  refine RL.val (x_neI rfl rfl) ?_
  refine RL.val (x_moveB rfl) ?_
  refine RL.gval (wantedF rfl rfl rfl rfl) (fun hg => (x_fld (o' := 1) Tryz.underlying57 rfl ty3 rfl rfl rfl)) ?_
  refine RL.gval (wantedF rfl rfl rfl rfl) (fun hg => (x_ld (v := .int .i64 (((mkC a s)).frm)) ty3 (gvr hg) rfl (hb_4.cl.field (i := 1) rfl))) ?_
  refine RL.gval (wantedF rfl rfl rfl rfl) (fun hg => (x_fld (o' := 1) Tryz.underlying57 rfl ty3 rfl rfl rfl)) ?_
  refine RL.gval (wantedF rfl rfl rfl rfl) (fun hg => (x_ld (v := .int .i64 (((mkC b t)).frm)) ty3 (gvr hg) rfl (hb_11.cl.field (i := 1) rfl))) ?_
  refine RL.gval (wantedF rfl rfl rfl rfl) (fun hg => (x_neI (gvr hg) (gvr hg))) ?_
  refine RL.val (x_or rfl rfl rfl) ?_
  refine RL.val (x_moveB rfl) ?_
  refine RL.gval (wantedF rfl rfl rfl rfl) (fun hg => (x_fld (o' := 2) Tryz.underlying57 rfl ty3 rfl rfl rfl)) ?_
  refine RL.gval (wantedF rfl rfl rfl rfl) (fun hg => (x_ld (v := .int .i64 (((mkC a s)).to)) ty3 (gvr hg) rfl (hb_4.cl.field (i := 2) rfl))) ?_
  refine RL.gval (wantedF rfl rfl rfl rfl) (fun hg => (x_fld (o' := 2) Tryz.underlying57 rfl ty3 rfl rfl rfl)) ?_
  refine RL.gval (wantedF rfl rfl rfl rfl) (fun hg => (x_ld (v := .int .i64 (((mkC b t)).to)) ty3 (gvr hg) rfl (hb_11.cl.field (i := 2) rfl))) ?_
  refine RL.gval (wantedF rfl rfl rfl rfl) (fun hg => (x_neI (gvr hg) (gvr hg))) ?_
  refine RL.val (x_or rfl rfl rfl) ?_
  refine RL.val (x_moveB rfl) ?_
  refine RL.gval (wantedF rfl rfl rfl rfl) (fun hg => (x_fld (o' := 3) Tryz.underlying57 rfl ty3 rfl rfl rfl)) ?_
  refine RL.gval (wantedF rfl rfl rfl rfl) (fun hg => (x_ld (v := .int .i64 (((mkC a s)).req)) ty3 (gvr hg) rfl (hb_4.cl.field (i := 3) rfl))) ?_
  refine RL.gval (wantedF rfl rfl rfl rfl) (fun hg => (x_fld (o' := 3) Tryz.underlying57 rfl ty3 rfl rfl rfl)) ?_
  refine RL.gval (wantedF rfl rfl rfl rfl) (fun hg => (x_ld (v := .int .i64 (((mkC b t)).req)) ty3 (gvr hg) rfl (hb_11.cl.field (i := 3) rfl))) ?_
  refine RL.gval (wantedF rfl rfl rfl rfl) (fun hg => (x_neI (gvr hg) (gvr hg))) ?_
  refine RL.val (x_or rfl rfl rfl) ?_
  refine RL.val (x_moveB rfl) ?_
  refine RL.gval (wantedF rfl rfl rfl rfl) (fun hg => (x_fld (o' := 4) Tryz.underlying57 rfl ty9 rfl rfl rfl)) ?_
  refine RL.gval (wantedF rfl rfl rfl rfl) (fun hg => (x_ld (v := .string (((mkC a s)).key)) ty9 (gvr hg) rfl (hb_4.cl.field (i := 4) rfl))) ?_
  refine RL.gval (wantedF rfl rfl rfl rfl) (fun hg => (x_fld (o' := 4) Tryz.underlying57 rfl ty9 rfl rfl rfl)) ?_
  refine RL.gval (wantedF rfl rfl rfl rfl) (fun hg => (x_ld (v := .string (((mkC b t)).key)) ty9 (gvr hg) rfl (hb_11.cl.field (i := 4) rfl))) ?_
  refine RL.gval (wantedF rfl rfl rfl rfl) (fun hg => (x_neS (gvr hg) (gvr hg))) ?_
  refine RL.val (x_or rfl rfl rfl) ?_
  refine RL.val (x_moveB rfl) ?_
  refine RL.gval (wantedF rfl rfl rfl rfl) (fun hg => (x_fld (o' := 8) Tryz.underlying57 rfl ty3 rfl rfl rfl)) ?_
  refine RL.gval (wantedF rfl rfl rfl rfl) (fun hg => (x_ld (v := .int .i64 (((mkC a s)).owner)) ty3 (gvr hg) rfl (hb_4.cl.field (i := 8) rfl))) ?_
  refine RL.gval (wantedF rfl rfl rfl rfl) (fun hg => (x_fld (o' := 8) Tryz.underlying57 rfl ty3 rfl rfl rfl)) ?_
  refine RL.gval (wantedF rfl rfl rfl rfl) (fun hg => (x_ld (v := .int .i64 (((mkC b t)).owner)) ty3 (gvr hg) rfl (hb_11.cl.field (i := 8) rfl))) ?_
  refine RL.gval (wantedF rfl rfl rfl rfl) (fun hg => (x_neI (gvr hg) (gvr hg))) ?_
  refine RL.val (x_or rfl rfl rfl) ?_
  refine RL.val (x_moveB rfl) ?_
  refine RL.gval (wantedF rfl rfl rfl rfl) (fun hg => (x_fld (o' := 9) Tryz.underlying57 rfl ty3 rfl rfl rfl)) ?_
  refine RL.gval (wantedF rfl rfl rfl rfl) (fun hg => (x_ld (v := .int .i64 (((mkC a s)).part)) ty3 (gvr hg) rfl (hb_4.cl.field (i := 9) rfl))) ?_
  refine RL.gval (wantedF rfl rfl rfl rfl) (fun hg => (x_fld (o' := 9) Tryz.underlying57 rfl ty3 rfl rfl rfl)) ?_
  refine RL.gval (wantedF rfl rfl rfl rfl) (fun hg => (x_ld (v := .int .i64 (((mkC b t)).part)) ty3 (gvr hg) rfl (hb_11.cl.field (i := 9) rfl))) ?_
  refine RL.gval (wantedF rfl rfl rfl rfl) (fun hg => (x_neI (gvr hg) (gvr hg))) ?_
  refine RL.val (x_or rfl rfl rfl) ?_
  refine RL.val (x_moveB rfl) ?_
  refine RL.gval (wantedF rfl rfl rfl rfl) (fun hg => (x_fld (o' := 10) Tryz.underlying57 rfl ty3 rfl rfl rfl)) ?_
  refine RL.gval (wantedF rfl rfl rfl rfl) (fun hg => (x_ld (v := .int .i64 (((mkC a s)).n)) ty3 (gvr hg) rfl (hb_4.cl.field (i := 10) rfl))) ?_
  refine RL.gval (wantedF rfl rfl rfl rfl) (fun hg => (x_fld (o' := 10) Tryz.underlying57 rfl ty3 rfl rfl rfl)) ?_
  refine RL.gval (wantedF rfl rfl rfl rfl) (fun hg => (x_ld (v := .int .i64 (((mkC b t)).n)) ty3 (gvr hg) rfl (hb_11.cl.field (i := 10) rfl))) ?_
  refine RL.gval (wantedF rfl rfl rfl rfl) (fun hg => (x_neI (gvr hg) (gvr hg))) ?_
  refine RL.val (x_or rfl rfl rfl) ?_
  refine RL.nil ?_
  refine Run.cond rfl (fun hc58 => ?_) (fun hc58 => ?_)
  · try simp only [br] at hc58
    refine Run.seq ?_
    refine Run.region ?_
    refine RL.val (x_assignB rfl) ?_
    refine RL.nil ?_
    refine Run.ret1 (v := .bool (false)) Tryz.func19 rfl rfl ?_
    exact ⟨_, rfl, by rw [same_no hc58], K0⟩
  · try simp only [br] at hc58
    refine Run.skip ?_
    refine Run.seq ?_
    refine Run.region ?_
    refine RL.val (x_fld (o' := 5) Tryz.underlying57 rfl ty50 rfl rfl rfl) ?_
    refine RL.val (x_lds (cs := #[.slice (s.ea) (a.ent.length) (s.ec), .slice (s.ma) (a.mrk.length) (s.mc), .slice (s.ca) (a.cl.length) (s.cc)]) ty50 rfl rfl (hb_4.cl.drop 5 3)) ?_
    refine RL.val (x_fld (o' := 5) Tryz.underlying57 rfl ty50 rfl rfl rfl) ?_
    refine RL.val (x_lds (cs := #[.slice (t.ea) (b.ent.length) (t.ec), .slice (t.ma) (b.mrk.length) (t.mc), .slice (t.ca) (b.cl.length) (t.cc)]) ty50 rfl rfl (hb_11.cl.drop 5 3)) ?_
    refine RL.st rfl <| St1.call (vals := [.agg #[.slice (s.ea) (a.ent.length) (s.ec), .slice (s.ma) (a.mrk.length) (s.mc), .slice (s.ca) (a.cl.length) (s.cc)], .agg #[.slice (t.ea) (b.ent.length) (t.ec), .slice (t.ma) (b.mrk.length) (t.mc), .slice (t.ca) (b.cl.length) (t.cc)]]) en47 rfl (sameCart_ a b s t _ hR hQ (by assumption)) ?_
    rintro _ w_16 ⟨rfl, K_17⟩
    replace hR := hR.ext K_17
    replace hQ := hQ.ext K_17
    replace hb_4 := hb_4.ext K_17
    replace hb_11 := hb_11.ext K_17
    replace K0 := K0.ext K_17
    refine RL.val (x_moveB rfl) ?_
    refine RL.gval (wantedT rfl rfl rfl rfl) (fun hg => (x_fld (o' := 11) Tryz.underlying57 rfl ty53 rfl rfl rfl)) ?_
    refine RL.gval (wantedT rfl rfl rfl rfl) (fun hg => (x_lds (cs := #[.int .i64 ((((mkC a s)).ring).parts), .int .i64 ((((mkC a s)).ring).copies), .int .i64 ((((mkC a s)).ring).spots), .slice (s.ba) (a.mem.length) (s.bc)]) ty53 (gvr hg) rfl (hb_4.cl.drop 11 4))) ?_
    refine RL.gval (wantedT rfl rfl rfl rfl) (fun hg => (x_fld (o' := 11) Tryz.underlying57 rfl ty53 rfl rfl rfl)) ?_
    refine RL.gval (wantedT rfl rfl rfl rfl) (fun hg => (x_lds (cs := #[.int .i64 ((((mkC b t)).ring).parts), .int .i64 ((((mkC b t)).ring).copies), .int .i64 ((((mkC b t)).ring).spots), .slice (t.ba) (b.mem.length) (t.bc)]) ty53 (gvr hg) rfl (hb_11.cl.drop 11 4))) ?_
    refine RL.gcall (vals := [.agg #[.int .i64 ((((mkC a s)).ring).parts), .int .i64 ((((mkC a s)).ring).copies), .int .i64 ((((mkC a s)).ring).spots), .slice (s.ba) (a.mem.length) (s.bc)], .agg #[.int .i64 ((((mkC b t)).ring).parts), .int .i64 ((((mkC b t)).ring).copies), .int .i64 ((((mkC b t)).ring).spots), .slice (t.ba) (b.mem.length) (t.bc)]]) (wantedT rfl rfl rfl rfl) en48 (fun hg => (mcons (gvr hg) (mcons (gvr hg) mnil))) (fun hg => (sameRing_ a b s t _ hR hQ (by assumption))) ?_
    intro w_18 K_19
    replace hR := hR.ext K_19
    replace hQ := hQ.ext K_19
    replace hb_4 := hb_4.ext K_19
    replace hb_11 := hb_11.ext K_19
    replace K0 := K0.ext K_19
    refine RL.val (x_and rfl rfl rfl) ?_
    refine RL.val (x_moveB rfl) ?_
    refine RL.gval (wantedT rfl rfl rfl rfl) (fun hg => (x_fld (o' := 15) Tryz.underlying57 rfl ty54 rfl rfl rfl)) ?_
    refine RL.gval (wantedT rfl rfl rfl rfl) (fun hg => (x_ld (v := .slice (s.pa) (a.pe.length) (s.pc)) ty54 (gvr hg) rfl (hb_4.cl.field (i := 15) rfl))) ?_
    refine RL.gval (wantedT rfl rfl rfl rfl) (fun hg => (x_fld (o' := 15) Tryz.underlying57 rfl ty54 rfl rfl rfl)) ?_
    refine RL.gval (wantedT rfl rfl rfl rfl) (fun hg => (x_ld (v := .slice (t.pa) (b.pe.length) (t.pc)) ty54 (gvr hg) rfl (hb_11.cl.field (i := 15) rfl))) ?_
    refine RL.gcall (vals := [.slice (s.pa) (a.pe.length) (s.pc), .slice (t.pa) (b.pe.length) (t.pc)]) (wantedT rfl rfl rfl rfl) en49 (fun hg => (mcons (gvr hg) (mcons (gvr hg) mnil))) (fun hg => (equal_pe _ _ _ _ _ _ _ (hR).pe (hQ).pe (by omega))) ?_
    intro w_20 K_21
    replace hR := hR.ext K_21
    replace hQ := hQ.ext K_21
    replace hb_4 := hb_4.ext K_21
    replace hb_11 := hb_11.ext K_21
    replace K0 := K0.ext K_21
    refine RL.val (x_and rfl rfl rfl) ?_
    refine RL.val (x_moveB rfl) ?_
    refine RL.gval (wantedT rfl rfl rfl rfl) (fun hg => (x_fld (o' := 16) Tryz.underlying57 rfl ty55 rfl rfl rfl)) ?_
    refine RL.gval (wantedT rfl rfl rfl rfl) (fun hg => (x_ld (v := .slice (s.sa) (a.su.length) (s.sc)) ty55 (gvr hg) rfl (hb_4.cl.field (i := 16) rfl))) ?_
    refine RL.gval (wantedT rfl rfl rfl rfl) (fun hg => (x_fld (o' := 16) Tryz.underlying57 rfl ty55 rfl rfl rfl)) ?_
    refine RL.gval (wantedT rfl rfl rfl rfl) (fun hg => (x_ld (v := .slice (t.sa) (b.su.length) (t.sc)) ty55 (gvr hg) rfl (hb_11.cl.field (i := 16) rfl))) ?_
    refine RL.gcall (vals := [.slice (s.sa) (a.su.length) (s.sc), .slice (t.sa) (b.su.length) (t.sc)]) (wantedT rfl rfl rfl rfl) en50 (fun hg => (mcons (gvr hg) (mcons (gvr hg) mnil))) (fun hg => (equal_su _ _ _ _ _ _ _ (hR).su (hQ).su (by omega))) ?_
    intro w_22 K_23
    replace hR := hR.ext K_23
    replace hQ := hQ.ext K_23
    replace hb_4 := hb_4.ext K_23
    replace hb_11 := hb_11.ext K_23
    replace K0 := K0.ext K_23
    refine RL.val (x_and rfl rfl rfl) ?_
    refine RL.val (x_assignB rfl) ?_
    refine RL.nil ?_
    refine Run.ret1 (v := .bool ((((sameCart a b) && (sameRing a b)) && (decide (a.pe = b.pe))) && (decide (a.su = b.su)))) Tryz.func19 rfl rfl ?_
    exact ⟨_, rfl, by rw [same_yes (by simp_all) (by simp_all) (by simp_all) (by simp_all) (by simp_all) (by simp_all) (by simp_all) (by simp_all)], K0⟩

set_option maxRecDepth 100000 in
set_option maxHeartbeats 4000000 in
theorem copied_ (v : MV) (s : Six) (w : World) (hR : SixR w s v) (hv : VOk v) :
    Calls Tryz.prog 36 #[.agg #[.int .i64 (((mkC v s)).kind), .int .i64 (((mkC v s)).frm), .int .i64 (((mkC v s)).to), .int .i64 (((mkC v s)).req), .string (((mkC v s)).key), .slice (s.ea) (v.ent.length) (s.ec), .slice (s.ma) (v.mrk.length) (s.mc), .slice (s.ca) (v.cl.length) (s.cc), .int .i64 (((mkC v s)).owner), .int .i64 (((mkC v s)).part), .int .i64 (((mkC v s)).n), .int .i64 ((((mkC v s)).ring).parts), .int .i64 ((((mkC v s)).ring).copies), .int .i64 ((((mkC v s)).ring).spots), .slice (s.ba) (v.mem.length) (s.bc), .slice (s.pa) (v.pe.length) (s.pc), .slice (s.sa) (v.su.length) (s.sc)]] w (Ret (fun r w' => ∃ s', r = .agg #[.int .i64 (((mkC v s')).kind), .int .i64 (((mkC v s')).frm), .int .i64 (((mkC v s')).to), .int .i64 (((mkC v s')).req), .string (((mkC v s')).key), .slice (s'.ea) (v.ent.length) (s'.ec), .slice (s'.ma) (v.mrk.length) (s'.mc), .slice (s'.ca) (v.cl.length) (s'.cc), .int .i64 (((mkC v s')).owner), .int .i64 (((mkC v s')).part), .int .i64 (((mkC v s')).n), .int .i64 ((((mkC v s')).ring).parts), .int .i64 ((((mkC v s')).ring).copies), .int .i64 ((((mkC v s')).ring).spots), .slice (s'.ba) (v.mem.length) (s'.bc), .slice (s'.pa) (v.pe.length) (s'.pc), .slice (s'.sa) (v.su.length) (s'.sc)] ∧ SixO w' s' v ∧ SixA s' ∧ (∀ q, ownS s' q → w.heap.size ≤ q) ∧ Ext w w')) := by
  have hv0 := hv
  obtain ⟨hv1, hv2, hv3, hv4, hv5, hv6⟩ := hv
  refine calls_run (n := 40) Tryz.func36 rfl rfl rfl ?_
  refine Run.seq ?_
  refine Run.region ?_
  refine RL.st rfl <| St1.box (v := .agg #[.int .i64 (((mkC v s)).kind), .int .i64 (((mkC v s)).frm), .int .i64 (((mkC v s)).to), .int .i64 (((mkC v s)).req), .string (((mkC v s)).key), .slice (s.ea) (v.ent.length) (s.ec), .slice (s.ma) (v.mrk.length) (s.mc), .slice (s.ca) (v.cl.length) (s.cc), .int .i64 (((mkC v s)).owner), .int .i64 (((mkC v s)).part), .int .i64 (((mkC v s)).n), .int .i64 ((((mkC v s)).ring).parts), .int .i64 ((((mkC v s)).ring).copies), .int .i64 ((((mkC v s)).ring).spots), .slice (s.ba) (v.mem.length) (s.bc), .slice (s.pa) (v.pe.length) (s.pc), .slice (s.sa) (v.su.length) (s.sc)]) rfl ?_
  intro b_1 w_2 hl_5 hb_4 K_3
  replace hb_4 : Blk w_2 b_1 [.int .i64 (((mkC v s)).kind), .int .i64 (((mkC v s)).frm), .int .i64 (((mkC v s)).to), .int .i64 (((mkC v s)).req), .string (((mkC v s)).key), .slice (s.ea) (v.ent.length) (s.ec), .slice (s.ma) (v.mrk.length) (s.mc), .slice (s.ca) (v.cl.length) (s.cc), .int .i64 (((mkC v s)).owner), .int .i64 (((mkC v s)).part), .int .i64 (((mkC v s)).n), .int .i64 ((((mkC v s)).ring).parts), .int .i64 ((((mkC v s)).ring).copies), .int .i64 ((((mkC v s)).ring).spots), .slice (s.ba) (v.mem.length) (s.bc), .slice (s.pa) (v.pe.length) (s.pc), .slice (s.sa) (v.su.length) (s.sc)] 57 := hb_4
  have pr_6 : ¬ rdS s v b_1 := fun h => absurd (hR.own_lt _ h) (by omega)
  have : w.heap.size ≤ b_1 := hl_5
  clear hl_5
  replace hR := hR.ext K_3
  have K0 := (K_3 : Ext w _)
  refine RL.st rfl <| St1.alloc ty57 ?_
  intro b_7 w_8 hl_11 hb_10 K_9
  replace hb_10 : Blk w_8 b_7 [.int .i64 (0), .int .i64 (0), .int .i64 (0), .int .i64 (0), .string (⟨#[]⟩), .slice (none) (0) (0), .slice (none) (0) (0), .slice (none) (0) (0), .int .i64 (0), .int .i64 (0), .int .i64 (0), .int .i64 (0), .int .i64 (0), .int .i64 (0), .slice (none) (0) (0), .slice (none) (0) (0), .slice (none) (0) (0)] 57 := hb_10
  have ne_12 : b_1 < b_7 := Nat.lt_of_lt_of_le hb_4.lt hl_11
  have pr_13 : ¬ rdS s v b_7 := fun h => absurd (hR.own_lt _ h) (by omega)
  have : w.heap.size ≤ b_7 := Nat.le_trans K0.size hl_11
  clear hl_11
  replace hR := hR.ext K_9
  replace hb_4 := hb_4.ext K_9
  replace K0 := K0.ext K_9
  refine RL.nil ?_
  refine Run.seq ?_
  refine Run.region ?_
  refine RL.val (x_fld (o' := 5) Tryz.underlying57 rfl ty50 rfl rfl rfl) ?_
  refine RL.val (x_fld (o' := 5) Tryz.underlying50 rfl ty44 rfl rfl rfl) ?_
  refine RL.val (x_ld (v := .slice (s.ea) (v.ent.length) (s.ec)) ty44 rfl rfl (hb_4.cl.field (i := 5) rfl)) ?_
  refine RL.st rfl <| St1.call (vals := [.slice (s.ea) (v.ent.length) (s.ec)]) en63 rfl (clone_ent _ _ _ _ (hR).ent (by omega)) ?_
  rintro _ w_16 ⟨a_14, c_15, rfl, ho_17, hg_18, K_19⟩
  have pr_20 : ∀ q_, own a_14 q_ → ¬ rdS s v q_ := apartNew hg_18 hR.own_lt
  have pr_21 : ¬ own a_14 b_1 := notNew hg_18 hb_4.lt
  have pr_22 : ¬ own a_14 b_7 := notNew hg_18 hb_10.lt
  have pg_23 : ∀ q_, own a_14 q_ → w.heap.size ≤ q_ := fun q_ h => Nat.le_trans K0.size (hg_18 q_ h)
  clear hg_18
  replace hR := hR.ext K_19
  replace hb_4 := hb_4.ext K_19
  replace hb_10 := hb_10.ext K_19
  replace K0 := K0.ext K_19
  refine RL.val (x_fld (o' := 5) Tryz.underlying57 rfl ty50 rfl rfl rfl) ?_
  refine RL.val (x_fld (o' := 5) Tryz.underlying50 rfl ty44 rfl rfl rfl) ?_
  refine RL.st rfl <| St1.store (v := .slice (a_14) (v.ent.length) (c_15)) ty44 rfl rfl rfl (by simp [Value.cells, Value.oneCell']) hb_4 (by simp) ?_
  intro w_24 hb_4_ K_25
  have hb_4' : Blk w_24 b_1 [.int .i64 (((mkC v s)).kind), .int .i64 (((mkC v s)).frm), .int .i64 (((mkC v s)).to), .int .i64 (((mkC v s)).req), .string (((mkC v s)).key), .slice (a_14) (v.ent.length) (c_15), .slice (s.ma) (v.mrk.length) (s.mc), .slice (s.ca) (v.cl.length) (s.cc), .int .i64 (((mkC v s)).owner), .int .i64 (((mkC v s)).part), .int .i64 (((mkC v s)).n), .int .i64 ((((mkC v s)).ring).parts), .int .i64 ((((mkC v s)).ring).copies), .int .i64 ((((mkC v s)).ring).spots), .slice (s.ba) (v.mem.length) (s.bc), .slice (s.pa) (v.pe.length) (s.pc), .slice (s.sa) (v.su.length) (s.sc)] 57 := hb_4_
  clear hb_4_
  replace hR := hR.keepO K_25 (fun q_ hq_ eq_ => pr_6 (by simp only [one] at eq_; rw [← eq_]; exact hq_))
  replace hb_10 := hb_10.keep K_25 (by simp only [one]; omega)
  replace ho_17 := ho_17.keepO K_25 (fun q_ hq_ eq_ => pr_21 (by simp only [one] at eq_; rw [← eq_]; exact hq_))
  replace K0 := K0.new K_25 (fun x hx => by simp only [one] at hx; omega)
  replace hb_4 := hb_4'
  clear hb_4'
  refine RL.nil ?_
  refine Run.seq ?_
  refine Run.drawT [13] (m := 18) (by kernel_rfl) rfl ?_
  intro w_26 K_27
  replace hR := hR.ext K_27
  replace hb_4 := hb_4.ext K_27
  replace hb_10 := hb_10.ext K_27
  replace ho_17 := ho_17.ext K_27
  replace K0 := K0.ext K_27
  refine ⟨fun w' => Blk w' b_1 [.int .i64 (((mkC v s)).kind), .int .i64 (((mkC v s)).frm), .int .i64 (((mkC v s)).to), .int .i64 (((mkC v s)).req), .string (((mkC v s)).key), .slice (a_14) (v.ent.length) (c_15), .slice (s.ma) (v.mrk.length) (s.mc), .slice (s.ca) (v.cl.length) (s.cc), .int .i64 (((mkC v s)).owner), .int .i64 (((mkC v s)).part), .int .i64 (((mkC v s)).n), .int .i64 ((((mkC v s)).ring).parts), .int .i64 ((((mkC v s)).ring).copies), .int .i64 ((((mkC v s)).ring).spots), .slice (s.ba) (v.mem.length) (s.bc), .slice (s.pa) (v.pe.length) (s.pc), .slice (s.sa) (v.su.length) (s.sc)] 57 ∧ True, ?_⟩
  refine RT.takeP (v := .pointer (some ⟨b_1, 5, none⟩)) 0 rfl (by kernel_rfl) (.inr ⟨hb_4, trivial⟩) (fun _ => (x_fld (o' := 5) Tryz.underlying57 rfl ty50 rfl rfl rfl)) ?_
  refine RT.takeP (v := .pointer (some ⟨b_1, 6, none⟩)) 1 rfl (by kernel_rfl) (.inr ⟨hb_4, trivial⟩) (fun _ => (x_fld (o' := 6) Tryz.underlying50 rfl ty48 rfl rfl rfl)) ?_
  refine RT.takeP (v := .pointer (some ⟨b_1, 6, none⟩)) 2 rfl (by kernel_rfl) (.inr ⟨hb_4, trivial⟩) (fun _ => (x_fld (o' := 6) Tryz.underlying48 rfl ty45 rfl rfl rfl)) ?_
  refine RT.take (v := .slice (s.ma) (v.mrk.length) (s.mc)) 3 rfl (by kernel_rfl) ⟨hb_4, trivial⟩ (by rintro _ ⟨hb_4, -⟩; exact (x_ld (v := .slice (s.ma) (v.mrk.length) (s.mc)) ty45 rfl rfl (hb_4.cl.field (i := 6) rfl))) ?_
  refine RT.takeP (v := .pointer (some ⟨b_1, 5, none⟩)) 5 rfl (by kernel_rfl) (.inr ⟨hb_4, trivial⟩) (fun _ => (x_fld (o' := 5) Tryz.underlying57 rfl ty50 rfl rfl rfl)) ?_
  refine RT.takeP (v := .pointer (some ⟨b_1, 6, none⟩)) 6 rfl (by kernel_rfl) (.inr ⟨hb_4, trivial⟩) (fun _ => (x_fld (o' := 6) Tryz.underlying50 rfl ty48 rfl rfl rfl)) ?_
  refine RT.takeP (v := .pointer (some ⟨b_1, 7, none⟩)) 7 rfl (by kernel_rfl) (.inr ⟨hb_4, trivial⟩) (fun _ => (x_fld (o' := 7) Tryz.underlying48 rfl ty46 rfl rfl rfl)) ?_
  refine RT.take (v := .slice (s.ca) (v.cl.length) (s.cc)) 8 rfl (by kernel_rfl) ⟨hb_4, trivial⟩ (by rintro _ ⟨hb_4, -⟩; exact (x_ld (v := .slice (s.ca) (v.cl.length) (s.cc)) ty46 rfl rfl (hb_4.cl.field (i := 7) rfl))) ?_
  refine RT.st 4 rfl (by kernel_rfl) rfl <| St1.call (vals := [.slice (s.ma) (v.mrk.length) (s.mc)]) en64 rfl (clone_mrk _ _ _ _ (hR).mrk (by omega)) ?_
  rintro _ w_30 ⟨a_28, c_29, rfl, ho_31, hg_32, K_33⟩
  have pr_34 : ∀ q_, own a_28 q_ → ¬ rdS s v q_ := apartNew hg_32 hR.own_lt
  have pr_35 : ¬ own a_28 b_1 := notNew hg_32 hb_4.lt
  have pr_36 : ¬ own a_28 b_7 := notNew hg_32 hb_10.lt
  have pr_37 : ∀ q_, own a_28 q_ → ¬ own a_14 q_ := apartNew hg_32 ho_17.own_lt
  have pg_38 : ∀ q_, own a_28 q_ → w.heap.size ≤ q_ := fun q_ h => Nat.le_trans K0.size (hg_32 q_ h)
  clear hg_32
  replace hR := hR.ext K_33
  replace hb_4 := hb_4.ext K_33
  replace hb_10 := hb_10.ext K_33
  replace ho_17 := ho_17.ext K_33
  replace K0 := K0.ext K_33
  refine ⟨.inr ⟨hb_4, trivial⟩, ?_⟩
  refine RT.takeP (v := .pointer (some ⟨b_1, 5, none⟩)) 10 rfl (by kernel_rfl) (.inr ⟨hb_4, trivial⟩) (fun _ => (x_fld (o' := 5) Tryz.underlying57 rfl ty50 rfl rfl rfl)) ?_
  refine RT.takeP (v := .pointer (some ⟨b_1, 6, none⟩)) 11 rfl (by kernel_rfl) (.inr ⟨hb_4, trivial⟩) (fun _ => (x_fld (o' := 6) Tryz.underlying50 rfl ty48 rfl rfl rfl)) ?_
  refine RT.takeP (v := .pointer (some ⟨b_1, 6, none⟩)) 12 rfl (by kernel_rfl) (.inr ⟨hb_4, trivial⟩) (fun _ => (x_fld (o' := 6) Tryz.underlying48 rfl ty45 rfl rfl rfl)) ?_
  refine RT.st 9 rfl (by kernel_rfl) rfl <| St1.call (vals := [.slice (s.ca) (v.cl.length) (s.cc)]) en65 rfl (clone_cl _ _ _ _ (hR).cl (by omega)) ?_
  rintro _ w_41 ⟨a_39, c_40, rfl, ho_42, hg_43, K_44⟩
  have pr_45 : ∀ q_, own a_39 q_ → ¬ rdS s v q_ := apartNew hg_43 hR.own_lt
  have pr_46 : ¬ own a_39 b_1 := notNew hg_43 hb_4.lt
  have pr_47 : ¬ own a_39 b_7 := notNew hg_43 hb_10.lt
  have pr_48 : ∀ q_, own a_39 q_ → ¬ own a_14 q_ := apartNew hg_43 ho_17.own_lt
  have pr_49 : ∀ q_, own a_39 q_ → ¬ own a_28 q_ := apartNew hg_43 ho_31.own_lt
  have pg_50 : ∀ q_, own a_39 q_ → w.heap.size ≤ q_ := fun q_ h => Nat.le_trans K0.size (hg_43 q_ h)
  clear hg_43
  replace hR := hR.ext K_44
  replace hb_4 := hb_4.ext K_44
  replace hb_10 := hb_10.ext K_44
  replace ho_17 := ho_17.ext K_44
  replace ho_31 := ho_31.ext K_44
  replace K0 := K0.ext K_44
  refine ⟨.inr ⟨hb_4, trivial⟩, ?_⟩
  refine RT.st 13 rfl (by kernel_rfl) rfl <| St1.store (v := .slice (a_28) (v.mrk.length) (c_29)) ty45 rfl rfl rfl (by simp [Value.cells, Value.oneCell']) hb_4 (by simp) ?_
  intro w_51 hb_4_ K_52
  have hb_4' : Blk w_51 b_1 [.int .i64 (((mkC v s)).kind), .int .i64 (((mkC v s)).frm), .int .i64 (((mkC v s)).to), .int .i64 (((mkC v s)).req), .string (((mkC v s)).key), .slice (a_14) (v.ent.length) (c_15), .slice (a_28) (v.mrk.length) (c_29), .slice (s.ca) (v.cl.length) (s.cc), .int .i64 (((mkC v s)).owner), .int .i64 (((mkC v s)).part), .int .i64 (((mkC v s)).n), .int .i64 ((((mkC v s)).ring).parts), .int .i64 ((((mkC v s)).ring).copies), .int .i64 ((((mkC v s)).ring).spots), .slice (s.ba) (v.mem.length) (s.bc), .slice (s.pa) (v.pe.length) (s.pc), .slice (s.sa) (v.su.length) (s.sc)] 57 := hb_4_
  clear hb_4_
  replace hR := hR.keepO K_52 (fun q_ hq_ eq_ => pr_6 (by simp only [one] at eq_; rw [← eq_]; exact hq_))
  replace hb_10 := hb_10.keep K_52 (by simp only [one]; omega)
  replace ho_17 := ho_17.keepO K_52 (fun q_ hq_ eq_ => pr_21 (by simp only [one] at eq_; rw [← eq_]; exact hq_))
  replace ho_31 := ho_31.keepO K_52 (fun q_ hq_ eq_ => pr_35 (by simp only [one] at eq_; rw [← eq_]; exact hq_))
  replace ho_42 := ho_42.keepO K_52 (fun q_ hq_ eq_ => pr_46 (by simp only [one] at eq_; rw [← eq_]; exact hq_))
  replace K0 := K0.new K_52 (fun x hx => by simp only [one] at hx; omega)
  replace hb_4 := hb_4'
  clear hb_4'
  refine ⟨.inl (by kernel_rfl), ?_⟩
  refine RT.takeP (v := .pointer (some ⟨b_1, 5, none⟩)) 14 rfl (by kernel_rfl) (.inl (by kernel_rfl)) (fun _ => (x_fld (o' := 5) Tryz.underlying57 rfl ty50 rfl rfl rfl)) ?_
  refine RT.takeP (v := .pointer (some ⟨b_1, 6, none⟩)) 15 rfl (by kernel_rfl) (.inl (by kernel_rfl)) (fun _ => (x_fld (o' := 6) Tryz.underlying50 rfl ty48 rfl rfl rfl)) ?_
  refine RT.takeP (v := .pointer (some ⟨b_1, 7, none⟩)) 16 rfl (by kernel_rfl) (.inl (by kernel_rfl)) (fun _ => (x_fld (o' := 7) Tryz.underlying48 rfl ty46 rfl rfl rfl)) ?_
  refine RT.st 17 rfl (by kernel_rfl) rfl <| St1.store (v := .slice (a_39) (v.cl.length) (c_40)) ty46 rfl rfl rfl (by simp [Value.cells, Value.oneCell']) hb_4 (by simp) ?_
  intro w_53 hb_4_ K_54
  have hb_4' : Blk w_53 b_1 [.int .i64 (((mkC v s)).kind), .int .i64 (((mkC v s)).frm), .int .i64 (((mkC v s)).to), .int .i64 (((mkC v s)).req), .string (((mkC v s)).key), .slice (a_14) (v.ent.length) (c_15), .slice (a_28) (v.mrk.length) (c_29), .slice (a_39) (v.cl.length) (c_40), .int .i64 (((mkC v s)).owner), .int .i64 (((mkC v s)).part), .int .i64 (((mkC v s)).n), .int .i64 ((((mkC v s)).ring).parts), .int .i64 ((((mkC v s)).ring).copies), .int .i64 ((((mkC v s)).ring).spots), .slice (s.ba) (v.mem.length) (s.bc), .slice (s.pa) (v.pe.length) (s.pc), .slice (s.sa) (v.su.length) (s.sc)] 57 := hb_4_
  clear hb_4_
  replace hR := hR.keepO K_54 (fun q_ hq_ eq_ => pr_6 (by simp only [one] at eq_; rw [← eq_]; exact hq_))
  replace hb_10 := hb_10.keep K_54 (by simp only [one]; omega)
  replace ho_17 := ho_17.keepO K_54 (fun q_ hq_ eq_ => pr_21 (by simp only [one] at eq_; rw [← eq_]; exact hq_))
  replace ho_31 := ho_31.keepO K_54 (fun q_ hq_ eq_ => pr_35 (by simp only [one] at eq_; rw [← eq_]; exact hq_))
  replace ho_42 := ho_42.keepO K_54 (fun q_ hq_ eq_ => pr_46 (by simp only [one] at eq_; rw [← eq_]; exact hq_))
  replace K0 := K0.new K_54 (fun x hx => by simp only [one] at hx; omega)
  replace hb_4 := hb_4'
  clear hb_4'
  refine ⟨.inl (by kernel_rfl), ?_⟩
  refine RT.done (by kernel_rfl) ?_
  refine Run.seq ?_
  refine Run.drawT [12] (m := 17) (by kernel_rfl) rfl ?_
  intro w_55 K_56
  replace hR := hR.ext K_56
  replace hb_4 := hb_4.ext K_56
  replace hb_10 := hb_10.ext K_56
  replace ho_17 := ho_17.ext K_56
  replace ho_31 := ho_31.ext K_56
  replace ho_42 := ho_42.ext K_56
  replace K0 := K0.ext K_56
  refine ⟨fun w' => Blk w' b_1 [.int .i64 (((mkC v s)).kind), .int .i64 (((mkC v s)).frm), .int .i64 (((mkC v s)).to), .int .i64 (((mkC v s)).req), .string (((mkC v s)).key), .slice (a_14) (v.ent.length) (c_15), .slice (a_28) (v.mrk.length) (c_29), .slice (a_39) (v.cl.length) (c_40), .int .i64 (((mkC v s)).owner), .int .i64 (((mkC v s)).part), .int .i64 (((mkC v s)).n), .int .i64 ((((mkC v s)).ring).parts), .int .i64 ((((mkC v s)).ring).copies), .int .i64 ((((mkC v s)).ring).spots), .slice (s.ba) (v.mem.length) (s.bc), .slice (s.pa) (v.pe.length) (s.pc), .slice (s.sa) (v.su.length) (s.sc)] 57 ∧ True, ?_⟩
  refine RT.takeP (v := .pointer (some ⟨b_1, 11, none⟩)) 0 rfl (by kernel_rfl) (.inr ⟨hb_4, trivial⟩) (fun _ => (x_fld (o' := 11) Tryz.underlying57 rfl ty53 rfl rfl rfl)) ?_
  refine RT.takeP (v := .pointer (some ⟨b_1, 14, none⟩)) 1 rfl (by kernel_rfl) (.inr ⟨hb_4, trivial⟩) (fun _ => (x_fld (o' := 14) Tryz.underlying53 rfl ty51 rfl rfl rfl)) ?_
  refine RT.take (v := .slice (s.ba) (v.mem.length) (s.bc)) 2 rfl (by kernel_rfl) ⟨hb_4, trivial⟩ (by rintro _ ⟨hb_4, -⟩; exact (x_ld (v := .slice (s.ba) (v.mem.length) (s.bc)) ty51 rfl rfl (hb_4.cl.field (i := 14) rfl))) ?_
  refine RT.takeP (v := .pointer (some ⟨b_1, 15, none⟩)) 4 rfl (by kernel_rfl) (.inr ⟨hb_4, trivial⟩) (fun _ => (x_fld (o' := 15) Tryz.underlying57 rfl ty54 rfl rfl rfl)) ?_
  refine RT.take (v := .slice (s.pa) (v.pe.length) (s.pc)) 5 rfl (by kernel_rfl) ⟨hb_4, trivial⟩ (by rintro _ ⟨hb_4, -⟩; exact (x_ld (v := .slice (s.pa) (v.pe.length) (s.pc)) ty54 rfl rfl (hb_4.cl.field (i := 15) rfl))) ?_
  refine RT.takeP (v := .pointer (some ⟨b_1, 16, none⟩)) 7 rfl (by kernel_rfl) (.inr ⟨hb_4, trivial⟩) (fun _ => (x_fld (o' := 16) Tryz.underlying57 rfl ty55 rfl rfl rfl)) ?_
  refine RT.take (v := .slice (s.sa) (v.su.length) (s.sc)) 8 rfl (by kernel_rfl) ⟨hb_4, trivial⟩ (by rintro _ ⟨hb_4, -⟩; exact (x_ld (v := .slice (s.sa) (v.su.length) (s.sc)) ty55 rfl rfl (hb_4.cl.field (i := 16) rfl))) ?_
  refine RT.st 3 rfl (by kernel_rfl) rfl <| St1.call (vals := [.slice (s.ba) (v.mem.length) (s.bc)]) en66 rfl (clone_mem _ _ _ _ (hR).mem (by omega)) ?_
  rintro _ w_59 ⟨a_57, c_58, rfl, ho_60, hg_61, K_62⟩
  have pr_63 : ∀ q_, own a_57 q_ → ¬ rdS s v q_ := apartNew hg_61 hR.own_lt
  have pr_64 : ¬ own a_57 b_1 := notNew hg_61 hb_4.lt
  have pr_65 : ¬ own a_57 b_7 := notNew hg_61 hb_10.lt
  have pr_66 : ∀ q_, own a_57 q_ → ¬ own a_14 q_ := apartNew hg_61 ho_17.own_lt
  have pr_67 : ∀ q_, own a_57 q_ → ¬ own a_28 q_ := apartNew hg_61 ho_31.own_lt
  have pr_68 : ∀ q_, own a_57 q_ → ¬ own a_39 q_ := apartNew hg_61 ho_42.own_lt
  have pg_69 : ∀ q_, own a_57 q_ → w.heap.size ≤ q_ := fun q_ h => Nat.le_trans K0.size (hg_61 q_ h)
  clear hg_61
  replace hR := hR.ext K_62
  replace hb_4 := hb_4.ext K_62
  replace hb_10 := hb_10.ext K_62
  replace ho_17 := ho_17.ext K_62
  replace ho_31 := ho_31.ext K_62
  replace ho_42 := ho_42.ext K_62
  replace K0 := K0.ext K_62
  refine ⟨.inr ⟨hb_4, trivial⟩, ?_⟩
  refine RT.takeP (v := .pointer (some ⟨b_1, 11, none⟩)) 10 rfl (by kernel_rfl) (.inr ⟨hb_4, trivial⟩) (fun _ => (x_fld (o' := 11) Tryz.underlying57 rfl ty53 rfl rfl rfl)) ?_
  refine RT.takeP (v := .pointer (some ⟨b_1, 14, none⟩)) 11 rfl (by kernel_rfl) (.inr ⟨hb_4, trivial⟩) (fun _ => (x_fld (o' := 14) Tryz.underlying53 rfl ty51 rfl rfl rfl)) ?_
  refine RT.st 6 rfl (by kernel_rfl) rfl <| St1.call (vals := [.slice (s.pa) (v.pe.length) (s.pc)]) en67 rfl (clone_pe _ _ _ _ (hR).pe (by omega)) ?_
  rintro _ w_72 ⟨a_70, c_71, rfl, ho_73, hg_74, K_75⟩
  have pr_76 : ∀ q_, own a_70 q_ → ¬ rdS s v q_ := apartNew hg_74 hR.own_lt
  have pr_77 : ¬ own a_70 b_1 := notNew hg_74 hb_4.lt
  have pr_78 : ¬ own a_70 b_7 := notNew hg_74 hb_10.lt
  have pr_79 : ∀ q_, own a_70 q_ → ¬ own a_14 q_ := apartNew hg_74 ho_17.own_lt
  have pr_80 : ∀ q_, own a_70 q_ → ¬ own a_28 q_ := apartNew hg_74 ho_31.own_lt
  have pr_81 : ∀ q_, own a_70 q_ → ¬ own a_39 q_ := apartNew hg_74 ho_42.own_lt
  have pr_82 : ∀ q_, own a_70 q_ → ¬ own a_57 q_ := apartNew hg_74 ho_60.own_lt
  have pg_83 : ∀ q_, own a_70 q_ → w.heap.size ≤ q_ := fun q_ h => Nat.le_trans K0.size (hg_74 q_ h)
  clear hg_74
  replace hR := hR.ext K_75
  replace hb_4 := hb_4.ext K_75
  replace hb_10 := hb_10.ext K_75
  replace ho_17 := ho_17.ext K_75
  replace ho_31 := ho_31.ext K_75
  replace ho_42 := ho_42.ext K_75
  replace ho_60 := ho_60.ext K_75
  replace K0 := K0.ext K_75
  refine ⟨.inr ⟨hb_4, trivial⟩, ?_⟩
  refine RT.st 9 rfl (by kernel_rfl) rfl <| St1.call (vals := [.slice (s.sa) (v.su.length) (s.sc)]) en68 rfl (clone_su _ _ _ _ (hR).su (by omega)) ?_
  rintro _ w_86 ⟨a_84, c_85, rfl, ho_87, hg_88, K_89⟩
  have pr_90 : ∀ q_, own a_84 q_ → ¬ rdS s v q_ := apartNew hg_88 hR.own_lt
  have pr_91 : ¬ own a_84 b_1 := notNew hg_88 hb_4.lt
  have pr_92 : ¬ own a_84 b_7 := notNew hg_88 hb_10.lt
  have pr_93 : ∀ q_, own a_84 q_ → ¬ own a_14 q_ := apartNew hg_88 ho_17.own_lt
  have pr_94 : ∀ q_, own a_84 q_ → ¬ own a_28 q_ := apartNew hg_88 ho_31.own_lt
  have pr_95 : ∀ q_, own a_84 q_ → ¬ own a_39 q_ := apartNew hg_88 ho_42.own_lt
  have pr_96 : ∀ q_, own a_84 q_ → ¬ own a_57 q_ := apartNew hg_88 ho_60.own_lt
  have pr_97 : ∀ q_, own a_84 q_ → ¬ own a_70 q_ := apartNew hg_88 ho_73.own_lt
  have pg_98 : ∀ q_, own a_84 q_ → w.heap.size ≤ q_ := fun q_ h => Nat.le_trans K0.size (hg_88 q_ h)
  clear hg_88
  replace hR := hR.ext K_89
  replace hb_4 := hb_4.ext K_89
  replace hb_10 := hb_10.ext K_89
  replace ho_17 := ho_17.ext K_89
  replace ho_31 := ho_31.ext K_89
  replace ho_42 := ho_42.ext K_89
  replace ho_60 := ho_60.ext K_89
  replace ho_73 := ho_73.ext K_89
  replace K0 := K0.ext K_89
  refine ⟨.inr ⟨hb_4, trivial⟩, ?_⟩
  refine RT.st 12 rfl (by kernel_rfl) rfl <| St1.store (v := .slice (a_57) (v.mem.length) (c_58)) ty51 rfl rfl rfl (by simp [Value.cells, Value.oneCell']) hb_4 (by simp) ?_
  intro w_99 hb_4_ K_100
  have hb_4' : Blk w_99 b_1 [.int .i64 (((mkC v s)).kind), .int .i64 (((mkC v s)).frm), .int .i64 (((mkC v s)).to), .int .i64 (((mkC v s)).req), .string (((mkC v s)).key), .slice (a_14) (v.ent.length) (c_15), .slice (a_28) (v.mrk.length) (c_29), .slice (a_39) (v.cl.length) (c_40), .int .i64 (((mkC v s)).owner), .int .i64 (((mkC v s)).part), .int .i64 (((mkC v s)).n), .int .i64 ((((mkC v s)).ring).parts), .int .i64 ((((mkC v s)).ring).copies), .int .i64 ((((mkC v s)).ring).spots), .slice (a_57) (v.mem.length) (c_58), .slice (s.pa) (v.pe.length) (s.pc), .slice (s.sa) (v.su.length) (s.sc)] 57 := hb_4_
  clear hb_4_
  replace hR := hR.keepO K_100 (fun q_ hq_ eq_ => pr_6 (by simp only [one] at eq_; rw [← eq_]; exact hq_))
  replace hb_10 := hb_10.keep K_100 (by simp only [one]; omega)
  replace ho_17 := ho_17.keepO K_100 (fun q_ hq_ eq_ => pr_21 (by simp only [one] at eq_; rw [← eq_]; exact hq_))
  replace ho_31 := ho_31.keepO K_100 (fun q_ hq_ eq_ => pr_35 (by simp only [one] at eq_; rw [← eq_]; exact hq_))
  replace ho_42 := ho_42.keepO K_100 (fun q_ hq_ eq_ => pr_46 (by simp only [one] at eq_; rw [← eq_]; exact hq_))
  replace ho_60 := ho_60.keepO K_100 (fun q_ hq_ eq_ => pr_64 (by simp only [one] at eq_; rw [← eq_]; exact hq_))
  replace ho_73 := ho_73.keepO K_100 (fun q_ hq_ eq_ => pr_77 (by simp only [one] at eq_; rw [← eq_]; exact hq_))
  replace ho_87 := ho_87.keepO K_100 (fun q_ hq_ eq_ => pr_91 (by simp only [one] at eq_; rw [← eq_]; exact hq_))
  replace K0 := K0.new K_100 (fun x hx => by simp only [one] at hx; omega)
  replace hb_4 := hb_4'
  clear hb_4'
  refine ⟨.inl (by kernel_rfl), ?_⟩
  refine RT.takeP (v := .pointer (some ⟨b_1, 15, none⟩)) 13 rfl (by kernel_rfl) (.inl (by kernel_rfl)) (fun _ => (x_fld (o' := 15) Tryz.underlying57 rfl ty54 rfl rfl rfl)) ?_
  refine RT.st 14 rfl (by kernel_rfl) rfl <| St1.store (v := .slice (a_70) (v.pe.length) (c_71)) ty54 rfl rfl rfl (by simp [Value.cells, Value.oneCell']) hb_4 (by simp) ?_
  intro w_101 hb_4_ K_102
  have hb_4' : Blk w_101 b_1 [.int .i64 (((mkC v s)).kind), .int .i64 (((mkC v s)).frm), .int .i64 (((mkC v s)).to), .int .i64 (((mkC v s)).req), .string (((mkC v s)).key), .slice (a_14) (v.ent.length) (c_15), .slice (a_28) (v.mrk.length) (c_29), .slice (a_39) (v.cl.length) (c_40), .int .i64 (((mkC v s)).owner), .int .i64 (((mkC v s)).part), .int .i64 (((mkC v s)).n), .int .i64 ((((mkC v s)).ring).parts), .int .i64 ((((mkC v s)).ring).copies), .int .i64 ((((mkC v s)).ring).spots), .slice (a_57) (v.mem.length) (c_58), .slice (a_70) (v.pe.length) (c_71), .slice (s.sa) (v.su.length) (s.sc)] 57 := hb_4_
  clear hb_4_
  replace hR := hR.keepO K_102 (fun q_ hq_ eq_ => pr_6 (by simp only [one] at eq_; rw [← eq_]; exact hq_))
  replace hb_10 := hb_10.keep K_102 (by simp only [one]; omega)
  replace ho_17 := ho_17.keepO K_102 (fun q_ hq_ eq_ => pr_21 (by simp only [one] at eq_; rw [← eq_]; exact hq_))
  replace ho_31 := ho_31.keepO K_102 (fun q_ hq_ eq_ => pr_35 (by simp only [one] at eq_; rw [← eq_]; exact hq_))
  replace ho_42 := ho_42.keepO K_102 (fun q_ hq_ eq_ => pr_46 (by simp only [one] at eq_; rw [← eq_]; exact hq_))
  replace ho_60 := ho_60.keepO K_102 (fun q_ hq_ eq_ => pr_64 (by simp only [one] at eq_; rw [← eq_]; exact hq_))
  replace ho_73 := ho_73.keepO K_102 (fun q_ hq_ eq_ => pr_77 (by simp only [one] at eq_; rw [← eq_]; exact hq_))
  replace ho_87 := ho_87.keepO K_102 (fun q_ hq_ eq_ => pr_91 (by simp only [one] at eq_; rw [← eq_]; exact hq_))
  replace K0 := K0.new K_102 (fun x hx => by simp only [one] at hx; omega)
  replace hb_4 := hb_4'
  clear hb_4'
  refine ⟨.inl (by kernel_rfl), ?_⟩
  refine RT.takeP (v := .pointer (some ⟨b_1, 16, none⟩)) 15 rfl (by kernel_rfl) (.inl (by kernel_rfl)) (fun _ => (x_fld (o' := 16) Tryz.underlying57 rfl ty55 rfl rfl rfl)) ?_
  refine RT.st 16 rfl (by kernel_rfl) rfl <| St1.store (v := .slice (a_84) (v.su.length) (c_85)) ty55 rfl rfl rfl (by simp [Value.cells, Value.oneCell']) hb_4 (by simp) ?_
  intro w_103 hb_4_ K_104
  have hb_4' : Blk w_103 b_1 [.int .i64 (((mkC v s)).kind), .int .i64 (((mkC v s)).frm), .int .i64 (((mkC v s)).to), .int .i64 (((mkC v s)).req), .string (((mkC v s)).key), .slice (a_14) (v.ent.length) (c_15), .slice (a_28) (v.mrk.length) (c_29), .slice (a_39) (v.cl.length) (c_40), .int .i64 (((mkC v s)).owner), .int .i64 (((mkC v s)).part), .int .i64 (((mkC v s)).n), .int .i64 ((((mkC v s)).ring).parts), .int .i64 ((((mkC v s)).ring).copies), .int .i64 ((((mkC v s)).ring).spots), .slice (a_57) (v.mem.length) (c_58), .slice (a_70) (v.pe.length) (c_71), .slice (a_84) (v.su.length) (c_85)] 57 := hb_4_
  clear hb_4_
  replace hR := hR.keepO K_104 (fun q_ hq_ eq_ => pr_6 (by simp only [one] at eq_; rw [← eq_]; exact hq_))
  replace hb_10 := hb_10.keep K_104 (by simp only [one]; omega)
  replace ho_17 := ho_17.keepO K_104 (fun q_ hq_ eq_ => pr_21 (by simp only [one] at eq_; rw [← eq_]; exact hq_))
  replace ho_31 := ho_31.keepO K_104 (fun q_ hq_ eq_ => pr_35 (by simp only [one] at eq_; rw [← eq_]; exact hq_))
  replace ho_42 := ho_42.keepO K_104 (fun q_ hq_ eq_ => pr_46 (by simp only [one] at eq_; rw [← eq_]; exact hq_))
  replace ho_60 := ho_60.keepO K_104 (fun q_ hq_ eq_ => pr_64 (by simp only [one] at eq_; rw [← eq_]; exact hq_))
  replace ho_73 := ho_73.keepO K_104 (fun q_ hq_ eq_ => pr_77 (by simp only [one] at eq_; rw [← eq_]; exact hq_))
  replace ho_87 := ho_87.keepO K_104 (fun q_ hq_ eq_ => pr_91 (by simp only [one] at eq_; rw [← eq_]; exact hq_))
  replace K0 := K0.new K_104 (fun x hx => by simp only [one] at hx; omega)
  replace hb_4 := hb_4'
  clear hb_4'
  refine ⟨.inl (by kernel_rfl), ?_⟩
  refine RT.done (by kernel_rfl) ?_
  refine Run.seq ?_
  refine Run.region ?_
  refine RL.val (x_lds (cs := #[.int .i64 (((mkC v s)).kind), .int .i64 (((mkC v s)).frm), .int .i64 (((mkC v s)).to), .int .i64 (((mkC v s)).req), .string (((mkC v s)).key), .slice (a_14) (v.ent.length) (c_15), .slice (a_28) (v.mrk.length) (c_29), .slice (a_39) (v.cl.length) (c_40), .int .i64 (((mkC v s)).owner), .int .i64 (((mkC v s)).part), .int .i64 (((mkC v s)).n), .int .i64 ((((mkC v s)).ring).parts), .int .i64 ((((mkC v s)).ring).copies), .int .i64 ((((mkC v s)).ring).spots), .slice (a_57) (v.mem.length) (c_58), .slice (a_70) (v.pe.length) (c_71), .slice (a_84) (v.su.length) (c_85)]) ty57 rfl rfl (hb_4.cl.drop 0 17)) ?_
  refine RL.st rfl <| St1.store (v := .agg #[.int .i64 (((mkC v s)).kind), .int .i64 (((mkC v s)).frm), .int .i64 (((mkC v s)).to), .int .i64 (((mkC v s)).req), .string (((mkC v s)).key), .slice (a_14) (v.ent.length) (c_15), .slice (a_28) (v.mrk.length) (c_29), .slice (a_39) (v.cl.length) (c_40), .int .i64 (((mkC v s)).owner), .int .i64 (((mkC v s)).part), .int .i64 (((mkC v s)).n), .int .i64 ((((mkC v s)).ring).parts), .int .i64 ((((mkC v s)).ring).copies), .int .i64 ((((mkC v s)).ring).spots), .slice (a_57) (v.mem.length) (c_58), .slice (a_70) (v.pe.length) (c_71), .slice (a_84) (v.su.length) (c_85)]) ty57 rfl rfl rfl (by simp [Value.cells, Value.oneCell']) hb_10 (by simp) ?_
  intro w_105 hb_10_ K_106
  have hb_10' : Blk w_105 b_7 [.int .i64 (((mkC v s)).kind), .int .i64 (((mkC v s)).frm), .int .i64 (((mkC v s)).to), .int .i64 (((mkC v s)).req), .string (((mkC v s)).key), .slice (a_14) (v.ent.length) (c_15), .slice (a_28) (v.mrk.length) (c_29), .slice (a_39) (v.cl.length) (c_40), .int .i64 (((mkC v s)).owner), .int .i64 (((mkC v s)).part), .int .i64 (((mkC v s)).n), .int .i64 ((((mkC v s)).ring).parts), .int .i64 ((((mkC v s)).ring).copies), .int .i64 ((((mkC v s)).ring).spots), .slice (a_57) (v.mem.length) (c_58), .slice (a_70) (v.pe.length) (c_71), .slice (a_84) (v.su.length) (c_85)] 57 := hb_10_
  clear hb_10_
  replace hR := hR.keepO K_106 (fun q_ hq_ eq_ => pr_13 (by simp only [one] at eq_; rw [← eq_]; exact hq_))
  replace hb_4 := hb_4.keep K_106 (by simp only [one]; omega)
  replace ho_17 := ho_17.keepO K_106 (fun q_ hq_ eq_ => pr_22 (by simp only [one] at eq_; rw [← eq_]; exact hq_))
  replace ho_31 := ho_31.keepO K_106 (fun q_ hq_ eq_ => pr_36 (by simp only [one] at eq_; rw [← eq_]; exact hq_))
  replace ho_42 := ho_42.keepO K_106 (fun q_ hq_ eq_ => pr_47 (by simp only [one] at eq_; rw [← eq_]; exact hq_))
  replace ho_60 := ho_60.keepO K_106 (fun q_ hq_ eq_ => pr_65 (by simp only [one] at eq_; rw [← eq_]; exact hq_))
  replace ho_73 := ho_73.keepO K_106 (fun q_ hq_ eq_ => pr_78 (by simp only [one] at eq_; rw [← eq_]; exact hq_))
  replace ho_87 := ho_87.keepO K_106 (fun q_ hq_ eq_ => pr_92 (by simp only [one] at eq_; rw [← eq_]; exact hq_))
  replace K0 := K0.new K_106 (fun x hx => by simp only [one] at hx; omega)
  replace hb_10 := hb_10'
  clear hb_10'
  refine RL.nil ?_
  refine Run.retC (cs := #[.int .i64 (((mkC v s)).kind), .int .i64 (((mkC v s)).frm), .int .i64 (((mkC v s)).to), .int .i64 (((mkC v s)).req), .string (((mkC v s)).key), .slice (a_14) (v.ent.length) (c_15), .slice (a_28) (v.mrk.length) (c_29), .slice (a_39) (v.cl.length) (c_40), .int .i64 (((mkC v s)).owner), .int .i64 (((mkC v s)).part), .int .i64 (((mkC v s)).n), .int .i64 ((((mkC v s)).ring).parts), .int .i64 ((((mkC v s)).ring).copies), .int .i64 ((((mkC v s)).ring).spots), .slice (a_57) (v.mem.length) (c_58), .slice (a_70) (v.pe.length) (c_71), .slice (a_84) (v.su.length) (c_85)]) Tryz.func36 rfl ty57 rfl rfl hb_10.cl ?_
  exact ⟨_, rfl, ⟨a_14, c_15, a_28, c_29, a_39, c_40, a_57, c_58, a_70, c_71, a_84, c_85⟩, rfl, ⟨ho_17, ho_31, ho_42, ho_60, ho_73, ho_87⟩, (List.pairwise_cons.2 ⟨(List.forall_mem_cons.2 ⟨(fun q_ h1 h2 => pr_37 q_ h2 h1), (List.forall_mem_cons.2 ⟨(fun q_ h1 h2 => pr_48 q_ h2 h1), (List.forall_mem_cons.2 ⟨(fun q_ h1 h2 => pr_66 q_ h2 h1), (List.forall_mem_cons.2 ⟨(fun q_ h1 h2 => pr_79 q_ h2 h1), (List.forall_mem_cons.2 ⟨(fun q_ h1 h2 => pr_93 q_ h2 h1), (fun _ h => absurd h List.not_mem_nil)⟩)⟩)⟩)⟩)⟩), (List.pairwise_cons.2 ⟨(List.forall_mem_cons.2 ⟨(fun q_ h1 h2 => pr_49 q_ h2 h1), (List.forall_mem_cons.2 ⟨(fun q_ h1 h2 => pr_67 q_ h2 h1), (List.forall_mem_cons.2 ⟨(fun q_ h1 h2 => pr_80 q_ h2 h1), (List.forall_mem_cons.2 ⟨(fun q_ h1 h2 => pr_94 q_ h2 h1), (fun _ h => absurd h List.not_mem_nil)⟩)⟩)⟩)⟩), (List.pairwise_cons.2 ⟨(List.forall_mem_cons.2 ⟨(fun q_ h1 h2 => pr_68 q_ h2 h1), (List.forall_mem_cons.2 ⟨(fun q_ h1 h2 => pr_81 q_ h2 h1), (List.forall_mem_cons.2 ⟨(fun q_ h1 h2 => pr_95 q_ h2 h1), (fun _ h => absurd h List.not_mem_nil)⟩)⟩)⟩), (List.pairwise_cons.2 ⟨(List.forall_mem_cons.2 ⟨(fun q_ h1 h2 => pr_82 q_ h2 h1), (List.forall_mem_cons.2 ⟨(fun q_ h1 h2 => pr_96 q_ h2 h1), (fun _ h => absurd h List.not_mem_nil)⟩)⟩), (List.pairwise_cons.2 ⟨(List.forall_mem_cons.2 ⟨(fun q_ h1 h2 => pr_97 q_ h2 h1), (fun _ h => absurd h List.not_mem_nil)⟩), (List.pairwise_cons.2 ⟨(fun _ h => absurd h List.not_mem_nil), List.Pairwise.nil⟩)⟩)⟩)⟩)⟩)⟩), fun q hq => by
    rcases hq with hq | hq | hq | hq | hq | hq
    · exact pg_23 q hq
    · exact pg_38 q hq
    · exact pg_50 q hq
    · exact pg_69 q hq
    · exact pg_83 q hq
    · exact pg_98 q hq, K0⟩

end Go.Proofs.YtdlaoncjiolckaaGreat
