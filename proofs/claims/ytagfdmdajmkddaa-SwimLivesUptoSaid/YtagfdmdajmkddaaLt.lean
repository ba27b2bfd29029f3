/-
  SwimLives: same, alike.
-/
import Derived.Test.YtagfdmdajmkddaaRows
import Derived.Test.YtagfdmdajmkddaaLs
namespace Go.Proofs.Ytagfdmdajmkddaa
attribute [local irreducible] St1 RL RA RT RT1 Run

open Sa
theorem equalT_peer (a : Option Addr) (xs : List Peer) (c : Nat) (d : Option Addr) (e : Nat) (w : World) (hs : SlOf w a xs) (ht : SlOf w d xs) (hl : xs.length ≤ 4294967295) : Calls Try.prog 25 #[.slice a xs.length c, .slice d xs.length e] w (Ret fun v w' => v = .bool true ∧ Ext w w') := by
  have h := equal_peer a xs c d xs e w hs ht hl
  rw [decide_eq_true (rfl : xs = xs)] at h
  exact h
attribute [local irreducible] tick on hear

theorem en56 : Enters Try.prog 56 := enters_of Try.func56 rfl (by kernel_rfl)
theorem en57 : Enters Try.prog 57 := enters_of Try.func57 rfl (by kernel_rfl)
theorem en60 : Enters Try.prog 60 := enters_of Try.func60 rfl (by kernel_rfl)
theorem en61 : Enters Try.prog 61 := enters_of Try.func61 rfl (by kernel_rfl)

set_option maxRecDepth 100000 in
set_option maxHeartbeats 4000000 in
theorem equalFunc_msg (a : Option Addr) (xs : List MsgC) (c : Nat) (d : Option Addr) (e : Nat) (gf : FuncId) (caps : List Value) (hen : Enters Try.prog gf) (w : World) (hs : SlOf w a xs) (ht : SlOf w d xs) (hl : xs.length ≤ 4294967295) (hq : ∀ x ∈ xs, ∀ w', Ext w w' → Calls Try.prog gf (Enc.val x :: Enc.val x :: caps).toArray w' (Ret fun v w'' => v = .bool true ∧ Ext w' w'')) :
    Calls Try.prog 56 #[.slice (a) (xs.length) (c), .slice (d) (xs.length) (e), .func (.func gf) #[] caps.toArray] w (Ret (fun v w' => v = .bool true ∧ Ext w w')) := by
  refine calls_run (n := 32) Try.func56 rfl rfl rfl ?_
  refine Run.seq ?_
  refine Run.region ?_
  refine RL.val (x_assignB rfl) ?_
  refine RL.nil ?_
  refine Run.seq ?_
  refine Run.seq ?_
  refine Run.region ?_
  refine RL.val (x_moveSl rfl) ?_
  refine RL.val (x_lenSl Try.underlying34 rfl) ?_
  refine RL.val (x_moveSl rfl) ?_
  refine RL.val (x_lenSl Try.underlying34 rfl) ?_
  refine RL.val (litF (x_neI rfl rfl) (by simp)) ?_
  refine RL.nil ?_
  refine Run.condF rfl ?_
  refine Run.skip ?_
  refine Run.seq ?_
  refine Run.seq ?_
  refine Run.region ?_
  refine RL.val (x_moveSl rfl) ?_
  refine RL.val (x_lenSl Try.underlying34 rfl) ?_
  refine RL.val (x_moveI rfl) ?_
  refine RL.nil ?_
  refine Run.block ?_
  refine Run.loop (ι := Nat) (fun i ρ' w' => Holds ρ' [(1, .slice (d) (xs.length) (e)), (2, .func (.func gf) #[] caps.toArray), (15, .slice (a) (xs.length) (c)), (16, .int .i64 (((xs.length : Nat) : Int))), (17, .int .i64 (((i : Nat) : Int)))] ∧ Ext w w' ∧ (i ≤ xs.length)) (fun i => xs.length - i) 0 ?_ ?_
  · refine ⟨⟨rfl, rfl, rfl, rfl, rfl, trivial⟩, (Keeps.refl _ w), ?_⟩
    · omega
  rintro i ρ_3 w_1 ⟨hH_2, K0, hi⟩ ih1
  obtain ⟨ρ₀, rfl⟩ := hH_2.ex
  clear hH_2
  refine Run.seq ?_
  refine Run.region ?_
  refine RL.val (x_ltI rfl rfl) ?_
  refine RL.nil ?_
  refine Run.seq ?_
  refine Run.cond rfl (fun hc18 => ?_) (fun hc18 => ?_)
  · try simp only [br] at hc18
    refine Run.skip ?_
    refine Run.seq ?_
    refine Run.block ?_
    refine Run.seq ?_
    refine Run.region ?_
    refine RL.val (x_moveI rfl) ?_
    obtain ⟨b_4, o_5, x, hx, ha_6, hc_7⟩ := hs.el (i := i) (by first | omega | (simp only [List.length_set]; omega))
    have hc_7_lt := hc_7.lt
    replace hc_7 := hc_7.ext K0
    refine RL.val (x_idxN Try.underlying34 ty61 rfl rfl ha_6 (by first | omega | (simp only [List.length_set]; omega))) ?_
    refine RL.val (x_ldV (v := .agg #[.int .i64 ((x).kind), .int .i64 ((x).frm), .int .i64 ((x).to), .int .i64 ((x).req), .string ((x).key), .slice ((x).entries.a) ((x).entries.len) ((x).entries.cap), .slice ((x).marks.a) ((x).marks.len) ((x).marks.cap), .slice ((x).cloud.a) ((x).cloud.len) ((x).cloud.cap), .int .i64 ((x).owner), .int .i64 ((x).part), .int .i64 ((x).n), .int .i64 ((x).rparts), .int .i64 ((x).rcopies), .int .i64 ((x).rspots), .slice ((x).members.a) ((x).members.len) ((x).members.cap), .slice ((x).peers.a) ((x).peers.len) ((x).peers.cap), .slice ((x).sums.a) ((x).sums.len) ((x).sums.cap)]) (y := x) ty61 rfl hc_7 rfl) ?_
    refine RL.st rfl <| St1.alloc ty61 ?_
    intro b_10 w_11 hl_14 hb_13 K_12
    replace hb_13 : Blk w_11 b_10 [.int .i64 (0), .int .i64 (0), .int .i64 (0), .int .i64 (0), .string (⟨#[]⟩), .slice (none) (0) (0), .slice (none) (0) (0), .slice (none) (0) (0), .int .i64 (0), .int .i64 (0), .int .i64 (0), .int .i64 (0), .int .i64 (0), .int .i64 (0), .slice (none) (0) (0), .slice (none) (0) (0), .slice (none) (0) (0)] 61 := hb_13
    have ne_15 : b_4 < b_10 := Nat.lt_of_lt_of_le hc_7.lt hl_14
    have : w.heap.size ≤ b_10 := Nat.le_trans K0.size hl_14
    clear hl_14
    replace hc_7 := hc_7.ext K_12
    replace K0 := K0.ext K_12
    refine RL.val (x_assignI rfl) ?_
    refine RL.st rfl <| St1.store (v := .agg #[.int .i64 ((x).kind), .int .i64 ((x).frm), .int .i64 ((x).to), .int .i64 ((x).req), .string ((x).key), .slice ((x).entries.a) ((x).entries.len) ((x).entries.cap), .slice ((x).marks.a) ((x).marks.len) ((x).marks.cap), .slice ((x).cloud.a) ((x).cloud.len) ((x).cloud.cap), .int .i64 ((x).owner), .int .i64 ((x).part), .int .i64 ((x).n), .int .i64 ((x).rparts), .int .i64 ((x).rcopies), .int .i64 ((x).rspots), .slice ((x).members.a) ((x).members.len) ((x).members.cap), .slice ((x).peers.a) ((x).peers.len) ((x).peers.cap), .slice ((x).sums.a) ((x).sums.len) ((x).sums.cap)]) ty61 rfl rfl rfl (by simp [Value.cells, Value.oneCell']) hb_13 (by simp) ?_
    intro w_16 hb_13_ K_17
    have hb_13' : Blk w_16 b_10 [.int .i64 ((x).kind), .int .i64 ((x).frm), .int .i64 ((x).to), .int .i64 ((x).req), .string ((x).key), .slice ((x).entries.a) ((x).entries.len) ((x).entries.cap), .slice ((x).marks.a) ((x).marks.len) ((x).marks.cap), .slice ((x).cloud.a) ((x).cloud.len) ((x).cloud.cap), .int .i64 ((x).owner), .int .i64 ((x).part), .int .i64 ((x).n), .int .i64 ((x).rparts), .int .i64 ((x).rcopies), .int .i64 ((x).rspots), .slice ((x).members.a) ((x).members.len) ((x).members.cap), .slice ((x).peers.a) ((x).peers.len) ((x).peers.cap), .slice ((x).sums.a) ((x).sums.len) ((x).sums.cap)] 61 := hb_13_
    clear hb_13_
    replace hc_7 := hc_7.keep K_17 (by simp only [one]; omega)
    replace K0 := K0.new K_17 (fun x hx => by simp only [one] at hx; omega)
    replace hb_13 := hb_13'
    clear hb_13'
    refine RL.nil ?_
    refine Run.seq ?_
    refine Run.region ?_
    refine RL.val (x_moveSl rfl) ?_
    refine RL.val (x_moveI rfl) ?_
    obtain ⟨b_18, o_19, x_22, hx_23, ha_20, hc_21⟩ := ht.el (i := i) (by first | omega | (simp only [List.length_set]; omega))
    have hc_21_lt := hc_21.lt
    replace hc_21 := hc_21.ext K0
    obtain rfl : x = x_22 := Option.some.inj (hx.symm.trans hx_23)
    refine RL.val (x_idxN Try.underlying34 ty61 rfl rfl ha_20 (by first | omega | (simp only [List.length_set]; omega))) ?_
    refine RL.val (x_ldV (v := .agg #[.int .i64 ((x).kind), .int .i64 ((x).frm), .int .i64 ((x).to), .int .i64 ((x).req), .string ((x).key), .slice ((x).entries.a) ((x).entries.len) ((x).entries.cap), .slice ((x).marks.a) ((x).marks.len) ((x).marks.cap), .slice ((x).cloud.a) ((x).cloud.len) ((x).cloud.cap), .int .i64 ((x).owner), .int .i64 ((x).part), .int .i64 ((x).n), .int .i64 ((x).rparts), .int .i64 ((x).rcopies), .int .i64 ((x).rspots), .slice ((x).members.a) ((x).members.len) ((x).members.cap), .slice ((x).peers.a) ((x).peers.len) ((x).peers.cap), .slice ((x).sums.a) ((x).sums.len) ((x).sums.cap)]) (y := x) ty61 rfl hc_21 rfl) ?_
    refine RL.st rfl <| St1.alloc ty61 ?_
    intro b_24 w_25 hl_28 hb_27 K_26
    replace hb_27 : Blk w_25 b_24 [.int .i64 (0), .int .i64 (0), .int .i64 (0), .int .i64 (0), .string (⟨#[]⟩), .slice (none) (0) (0), .slice (none) (0) (0), .slice (none) (0) (0), .int .i64 (0), .int .i64 (0), .int .i64 (0), .int .i64 (0), .int .i64 (0), .int .i64 (0), .slice (none) (0) (0), .slice (none) (0) (0), .slice (none) (0) (0)] 61 := hb_27
    have ne_29 : b_10 < b_24 := Nat.lt_of_lt_of_le hb_13.lt hl_28
    have ne_30 : b_18 < b_24 := Nat.lt_of_lt_of_le hc_21.lt hl_28
    have : w.heap.size ≤ b_24 := Nat.le_trans K0.size hl_28
    clear hl_28
    replace hb_13 := hb_13.ext K_26
    replace hc_21 := hc_21.ext K_26
    replace K0 := K0.ext K_26
    refine RL.st rfl <| St1.store (v := .agg #[.int .i64 ((x).kind), .int .i64 ((x).frm), .int .i64 ((x).to), .int .i64 ((x).req), .string ((x).key), .slice ((x).entries.a) ((x).entries.len) ((x).entries.cap), .slice ((x).marks.a) ((x).marks.len) ((x).marks.cap), .slice ((x).cloud.a) ((x).cloud.len) ((x).cloud.cap), .int .i64 ((x).owner), .int .i64 ((x).part), .int .i64 ((x).n), .int .i64 ((x).rparts), .int .i64 ((x).rcopies), .int .i64 ((x).rspots), .slice ((x).members.a) ((x).members.len) ((x).members.cap), .slice ((x).peers.a) ((x).peers.len) ((x).peers.cap), .slice ((x).sums.a) ((x).sums.len) ((x).sums.cap)]) ty61 rfl rfl rfl (by simp [Value.cells, Value.oneCell']) hb_27 (by simp) ?_
    intro w_31 hb_27_ K_32
    have hb_27' : Blk w_31 b_24 [.int .i64 ((x).kind), .int .i64 ((x).frm), .int .i64 ((x).to), .int .i64 ((x).req), .string ((x).key), .slice ((x).entries.a) ((x).entries.len) ((x).entries.cap), .slice ((x).marks.a) ((x).marks.len) ((x).marks.cap), .slice ((x).cloud.a) ((x).cloud.len) ((x).cloud.cap), .int .i64 ((x).owner), .int .i64 ((x).part), .int .i64 ((x).n), .int .i64 ((x).rparts), .int .i64 ((x).rcopies), .int .i64 ((x).rspots), .slice ((x).members.a) ((x).members.len) ((x).members.cap), .slice ((x).peers.a) ((x).peers.len) ((x).peers.cap), .slice ((x).sums.a) ((x).sums.len) ((x).sums.cap)] 61 := hb_27_
    clear hb_27_
    replace hb_13 := hb_13.keep K_32 (by simp only [one]; omega)
    replace hc_21 := hc_21.keep K_32 (by simp only [one]; omega)
    replace K0 := K0.new K_32 (fun x hx => by simp only [one] at hx; omega)
    replace hb_27 := hb_27'
    clear hb_27'
    refine RL.nil ?_
    refine Run.seq ?_
    refine Run.region ?_
    refine RL.val (x_moveF rfl) ?_
    refine RL.val (x_lds (cs := #[.int .i64 ((x).kind), .int .i64 ((x).frm), .int .i64 ((x).to), .int .i64 ((x).req), .string ((x).key), .slice ((x).entries.a) ((x).entries.len) ((x).entries.cap), .slice ((x).marks.a) ((x).marks.len) ((x).marks.cap), .slice ((x).cloud.a) ((x).cloud.len) ((x).cloud.cap), .int .i64 ((x).owner), .int .i64 ((x).part), .int .i64 ((x).n), .int .i64 ((x).rparts), .int .i64 ((x).rcopies), .int .i64 ((x).rspots), .slice ((x).members.a) ((x).members.len) ((x).members.cap), .slice ((x).peers.a) ((x).peers.len) ((x).peers.cap), .slice ((x).sums.a) ((x).sums.len) ((x).sums.cap)]) ty61 rfl rfl (hb_13.cl.drop 0 17)) ?_
    refine RL.val (x_lds (cs := #[.int .i64 ((x).kind), .int .i64 ((x).frm), .int .i64 ((x).to), .int .i64 ((x).req), .string ((x).key), .slice ((x).entries.a) ((x).entries.len) ((x).entries.cap), .slice ((x).marks.a) ((x).marks.len) ((x).marks.cap), .slice ((x).cloud.a) ((x).cloud.len) ((x).cloud.cap), .int .i64 ((x).owner), .int .i64 ((x).part), .int .i64 ((x).n), .int .i64 ((x).rparts), .int .i64 ((x).rcopies), .int .i64 ((x).rspots), .slice ((x).members.a) ((x).members.len) ((x).members.cap), .slice ((x).peers.a) ((x).peers.len) ((x).peers.cap), .slice ((x).sums.a) ((x).sums.len) ((x).sums.cap)]) ty61 rfl rfl (hb_27.cl.drop 0 17)) ?_
    refine RL.st rfl <| St1.callV (first := []) (vals := .agg #[.int .i64 ((x).kind), .int .i64 ((x).frm), .int .i64 ((x).to), .int .i64 ((x).req), .string ((x).key), .slice ((x).entries.a) ((x).entries.len) ((x).entries.cap), .slice ((x).marks.a) ((x).marks.len) ((x).marks.cap), .slice ((x).cloud.a) ((x).cloud.len) ((x).cloud.cap), .int .i64 ((x).owner), .int .i64 ((x).part), .int .i64 ((x).n), .int .i64 ((x).rparts), .int .i64 ((x).rcopies), .int .i64 ((x).rspots), .slice ((x).members.a) ((x).members.len) ((x).members.cap), .slice ((x).peers.a) ((x).peers.len) ((x).peers.cap), .slice ((x).sums.a) ((x).sums.len) ((x).sums.cap)] :: .agg #[.int .i64 ((x).kind), .int .i64 ((x).frm), .int .i64 ((x).to), .int .i64 ((x).req), .string ((x).key), .slice ((x).entries.a) ((x).entries.len) ((x).entries.cap), .slice ((x).marks.a) ((x).marks.len) ((x).marks.cap), .slice ((x).cloud.a) ((x).cloud.len) ((x).cloud.cap), .int .i64 ((x).owner), .int .i64 ((x).part), .int .i64 ((x).n), .int .i64 ((x).rparts), .int .i64 ((x).rcopies), .int .i64 ((x).rspots), .slice ((x).members.a) ((x).members.len) ((x).members.cap), .slice ((x).peers.a) ((x).peers.len) ((x).peers.cap), .slice ((x).sums.a) ((x).sums.len) ((x).sums.cap)] :: caps) hen rfl rfl (hq x (mem_of_at hx) _ K0) ?_
    rintro _ w_33 ⟨rfl, K_34⟩
    replace hb_13 := hb_13.ext K_34
    replace hb_27 := hb_27.ext K_34
    replace K0 := K0.ext K_34
    refine RL.val (x_not rfl) ?_
    refine RL.nil ?_
    refine Run.condF rfl ?_
    refine Run.skip ?_
    refine Run.inBlock ?_
    refine Run.region ?_
    refine RL.val (litI (c := ((i + 1 : Nat) : Int)) (x_add rfl rfl (by omega) (by omega)) rfl) ?_
    refine RL.val (x_moveI rfl) ?_
    refine RL.nil ?_
    refine ih1 (i + 1) _ _ ?_ (by omega)
    refine ⟨⟨rfl, rfl, rfl, rfl, rfl, trivial⟩, K0, ?_⟩
    · omega
  · try simp only [br] at hc18
    refine Run.exit rfl ?_
    refine Run.seq ?_
    refine Run.region ?_
    refine RL.val (x_assignB rfl) ?_
    refine RL.nil ?_
    refine Run.ret1 (v := .bool (true)) Try.func56 rfl rfl ?_
    exact ⟨_, rfl, rfl, K0⟩

set_option maxRecDepth 100000 in
set_option maxHeartbeats 4000000 in
theorem same_ (a : Option Addr) (xs : List MsgC) (c : Nat) (d : Option Addr) (e : Nat) (w : World) (hs : SlOf w a xs) (ht : SlOf w d xs) (hl : xs.length ≤ 4294967295) (hB : AllBare xs) :
    Calls Try.prog 36 #[.slice (a) (xs.length) (c), .slice (d) (xs.length) (e)] w (Ret (fun v w' => v = .bool true ∧ Ext w w')) := by
  refine calls_run (n := 8) Try.func36 rfl rfl rfl ?_
  refine Run.seq ?_
  refine Run.region ?_
  refine RL.val (x_assignB rfl) ?_
  refine RL.nil ?_
  refine Run.seq ?_
  refine Run.region ?_
  refine RL.val (x_moveSl rfl) ?_
  refine RL.val (x_moveSl rfl) ?_
  refine RL.st rfl <| St1.call (vals := [.slice (a) (xs.length) (c), .slice (d) (xs.length) (e), .func (.func 57) #[] #[]]) en56 rfl (equalFunc_msg _ _ _ _ _ 57 [] en57 _ hs ht (by omega) (fun x hx w' _ => same1_ x w' (hB x hx))) ?_
  rintro _ w_1 ⟨rfl, K_2⟩
  have K0 := (K_2 : Ext w _)
  refine RL.val (x_assignB rfl) ?_
  refine RL.nil ?_
  refine Run.ret1 (v := .bool (true)) Try.func36 rfl rfl ?_
  exact ⟨_, rfl, rfl, K0⟩

set_option maxRecDepth 100000 in
set_option maxHeartbeats 4000000 in
theorem alike_ (b : Nat) (al : Option Addr) (cl : Nat) (b' : Nat) (aL : Option Addr) (cL : Nat) (aP : Option Addr) (cP : Nat) (T : Tab) (w : World) (hT : TabAt w b al cl T) (hR : RTabAt w b' aL cL aP cP T) :
    Calls Try.prog 37 #[.pointer (some ⟨b, 0, none⟩), .pointer (some ⟨b', 0, none⟩)] w (Ret (fun v w' => v = .bool true ∧ Ext w w')) := by
  have hok := hT.ok
  have hl8 := hok.len
  have hpL := peersL_len T.l
  refine calls_run (n := 39) Try.func37 rfl rfl rfl ?_
  refine Run.seq ?_
  refine Run.region ?_
  refine RL.val (x_assignB rfl) ?_
  refine RL.nil ?_
  refine Run.seq ?_
  refine Run.seq ?_
  refine Run.region ?_
  refine RL.val (x_moveP rfl) ?_
  refine RL.st rfl <| St1.call (vals := [.pointer (some ⟨b, 0, none⟩)]) en23 rfl (peers_ _ _ _ T _ hT.blk hT.ok.len) ?_
  rintro _ w_3 ⟨a_1, c_2, rfl, ho_4, hg_5, K_6⟩
  have pr_7 : ∀ q_, own a_1 q_ → ¬ tabS b al q_ := apartNew hg_5 hT.own_lt
  have pr_8 : ∀ q_, own a_1 q_ → ¬ rtabS b' aL aP q_ := apartNew hg_5 hR.own_lt
  have pg_9 : ∀ q_, own a_1 q_ → w.heap.size ≤ q_ := fun q_ h => Nat.le_trans (Nat.le_refl _) (hg_5 q_ h)
  clear hg_5
  replace hT := hT.ext K_6
  replace hR := hR.ext K_6
  have K0 := (K_6 : Ext w _)
  refine RL.val (x_moveP rfl) ?_
  refine RL.st rfl <| St1.call (vals := [.pointer (some ⟨b', 0, none⟩)]) en60 rfl (peersR_ _ _ _ _ _ T _ hR.blk hR.ownL.sl hR.ownP.sl hR.ok) ?_
  rintro _ w_12 ⟨a_10, c_11, rfl, ho_13, hg_14, K_15⟩
  have pr_16 : ∀ q_, own a_10 q_ → ¬ tabS b al q_ := apartNew hg_14 hT.own_lt
  have pr_17 : ∀ q_, own a_10 q_ → ¬ rtabS b' aL aP q_ := apartNew hg_14 hR.own_lt
  have pr_18 : ∀ q_, own a_10 q_ → ¬ own a_1 q_ := apartNew hg_14 ho_4.own_lt
  have pg_19 : ∀ q_, own a_10 q_ → w.heap.size ≤ q_ := fun q_ h => Nat.le_trans K0.size (hg_14 q_ h)
  clear hg_14
  replace hT := hT.ext K_15
  replace hR := hR.ext K_15
  replace ho_4 := ho_4.ext K_15
  replace K0 := K0.ext K_15
  refine RL.st rfl <| St1.call (vals := [.slice (a_1) ((peersL T.l).length) (c_2), .slice (a_10) ((peersL T.l).length) (c_11)]) en25 rfl (equalT_peer _ (peersL T.l) _ _ _ _ ho_4.sl ho_13.sl (by omega)) ?_
  rintro _ w_20 ⟨rfl, K_21⟩
  replace hT := hT.ext K_21
  replace hR := hR.ext K_21
  replace ho_4 := ho_4.ext K_21
  replace ho_13 := ho_13.ext K_21
  replace K0 := K0.ext K_21
  refine RL.val (x_not rfl) ?_
  refine RL.nil ?_
  refine Run.condF rfl ?_
  refine Run.skip ?_
  refine Run.seq ?_
  refine Run.seq ?_
  refine Run.region ?_
  refine RL.val (x_assignI rfl) ?_
  refine RL.nil ?_
  refine Run.block ?_
  refine Run.loop (ι := Nat) (fun i ρ' w' => Holds ρ' [(0, .pointer (some ⟨b, 0, none⟩)), (1, .pointer (some ⟨b', 0, none⟩)), (5, .int .i64 (((i : Nat) : Int) - 1))] ∧ Ext w w' ∧ (TabAt w' b al cl T) ∧ (RTabAt w' b' aL cL aP cP T) ∧ (OwnSl w' 23 (a_1) (c_2) (peersL T.l)) ∧ (OwnSl w' 23 (a_10) (c_11) (peersL T.l)) ∧ (i ≤ 10)) (fun i => 10 - i) 0 ?_ ?_
  · refine ⟨⟨rfl, rfl, rfl, trivial⟩, K0, hT, hR, ho_4, ho_13, ?_⟩
    · omega
  clear hT hR ho_4 ho_13
  clear K0
  rintro i ρ_24 w_22 ⟨hH_23, K0, hT, hR, ho_4, ho_13, hi⟩ ih1
  obtain ⟨ρ₀, rfl⟩ := hH_23.ex
  clear hH_23
  refine Run.seq ?_
  refine Run.seq ?_
  refine Run.region ?_
  refine RL.val (x_moveI rfl) ?_
  refine RL.val (x_ltI rfl rfl) ?_
  refine RL.nil ?_
  refine Run.cond rfl (fun hc13 => ?_) (fun hc13 => ?_)
  · try simp only [br] at hc13
    refine Run.skip ?_
    refine Run.seq ?_
    refine Run.block ?_
    refine Run.seq ?_
    refine Run.region ?_
    refine RL.val (x_moveP rfl) ?_
    refine RL.val (x_moveI rfl) ?_
    refine RL.st rfl <| St1.call (vals := [.pointer (some ⟨b, 0, none⟩), .int .i64 (((i : Nat) : Int) - 1)]) en17 rfl (status_ _ _ _ T (((i : Nat) : Int) - 1) _ hT.blk hT.ok.len) ?_
    rintro _ w_25 ⟨rfl, K_26⟩
    replace hT := hT.ext K_26
    replace hR := hR.ext K_26
    replace ho_4 := ho_4.ext K_26
    replace ho_13 := ho_13.ext K_26
    replace K0 := K0.ext K_26
    refine RL.val (x_moveP rfl) ?_
    refine RL.val (x_moveI rfl) ?_
    refine RL.st rfl <| St1.call (vals := [.pointer (some ⟨b', 0, none⟩), .int .i64 (((i : Nat) : Int) - 1)]) en61 rfl (statusR_ _ _ _ _ _ T (((i : Nat) : Int) - 1) _ hR.blk hR.ownL.sl hR.ownP.sl hR.ok) ?_
    rintro _ w_27 ⟨rfl, K_28⟩
    replace hT := hT.ext K_28
    replace hR := hR.ext K_28
    replace ho_4 := ho_4.ext K_28
    replace ho_13 := ho_13.ext K_28
    replace K0 := K0.ext K_28
    refine RL.val (litF (x_neI rfl rfl) (by simp)) ?_
    refine RL.val (x_moveB rfl) ?_
    refine RL.gst (wantedF1 rfl rfl rfl rfl) <| St1.val (x_moveP rfl) ?_
    refine RL.gst (wantedF1 rfl rfl rfl rfl) <| St1.val (x_moveI rfl) ?_
    refine RL.gst (wantedF1 rfl rfl rfl rfl) <| St1.call (vals := [.pointer (some ⟨b, 0, none⟩), .int .i64 (((i : Nat) : Int) - 1)]) en18 rfl (up_ _ _ _ T (((i : Nat) : Int) - 1) _ hT.blk hT.ok.len) ?_
    rintro _ w_29 ⟨rfl, K_30⟩
    replace hT := hT.ext K_30
    replace hR := hR.ext K_30
    replace ho_4 := ho_4.ext K_30
    replace ho_13 := ho_13.ext K_30
    replace K0 := K0.ext K_30
    refine RL.gst (wantedF1 rfl rfl rfl rfl) <| St1.val (x_moveP rfl) ?_
    refine RL.gst (wantedF1 rfl rfl rfl rfl) <| St1.val (x_moveI rfl) ?_
    refine RL.gst (wantedF1 rfl rfl rfl rfl) <| St1.call (vals := [.pointer (some ⟨b', 0, none⟩), .int .i64 (((i : Nat) : Int) - 1)]) en61 rfl (statusR_ _ _ _ _ _ T (((i : Nat) : Int) - 1) _ hR.blk hR.ownL.sl hR.ownP.sl hR.ok) ?_
    rintro _ w_31 ⟨rfl, K_32⟩
    replace hT := hT.ext K_32
    replace hR := hR.ext K_32
    replace ho_4 := ho_4.ext K_32
    replace ho_13 := ho_13.ext K_32
    replace K0 := K0.ext K_32
    refine RL.gst (wantedF1 rfl rfl rfl rfl) <| St1.val (x_eqI rfl rfl) ?_
    refine RL.gst (wantedF1 rfl rfl rfl rfl) <| St1.val (x_moveB rfl) ?_
    refine RL.gval (wantedF rfl rfl rfl rfl) (fun hg => (x_moveP rfl)) ?_
    refine RL.gval (wantedF rfl rfl rfl rfl) (fun hg => (x_moveI rfl)) ?_
    refine RL.gcall (vals := [.pointer (some ⟨b', 0, none⟩), .int .i64 (((i : Nat) : Int) - 1)]) (wantedF rfl rfl rfl rfl) en61 (fun hg => (mcons (gvr hg) (mcons (gvr hg) mnil))) (fun hg => (statusR_ _ _ _ _ _ T (((i : Nat) : Int) - 1) _ hR.blk hR.ownL.sl hR.ownP.sl hR.ok)) ?_
    intro w_33 K_34
    replace hT := hT.ext K_34
    replace hR := hR.ext K_34
    replace ho_4 := ho_4.ext K_34
    replace ho_13 := ho_13.ext K_34
    replace K0 := K0.ext K_34
    refine RL.gval (wantedF rfl rfl rfl rfl) (fun hg => (x_eqI (gvr hg) rfl)) ?_
    refine RL.gst (wantedF1 rfl rfl rfl rfl) <| St1.val (x_or rfl rfl rfl) ?_
    refine RL.gst (wantedF1 rfl rfl rfl rfl) <| St1.val (litF (x_neB Try.underlying4 rfl rfl) (by simp)) ?_
    refine RL.val (x_orF rfl rfl rfl) ?_
    refine RL.nil ?_
    refine Run.condF rfl ?_
    refine Run.skip ?_
    refine Run.inBlock ?_
    refine Run.region ?_
    refine RL.val (x_moveI rfl) ?_
    refine RL.val (litI (c := ((i + 1 : Nat) : Int) - 1) (x_add rfl rfl (by omega) (by omega)) (by omega)) ?_
    refine RL.val (x_assignI rfl) ?_
    refine RL.nil ?_
    refine ih1 (i + 1) _ _ ?_ (by omega)
    refine ⟨⟨rfl, rfl, rfl, trivial⟩, K0, hT, hR, ho_4, ho_13, ?_⟩
    · omega
  · try simp only [br] at hc13
    refine Run.exit rfl ?_
    refine Run.seq ?_
    refine Run.region ?_
    refine RL.val (x_assignB rfl) ?_
    refine RL.nil ?_
    refine Run.ret1 (v := .bool (true)) Try.func37 rfl rfl ?_
    exact ⟨_, rfl, rfl, K0⟩

end Go.Proofs.Ytagfdmdajmkddaa
