/-
  Layer 18: the document's sender as a whole; messages that are the same.
-/
import Derived.Test.YthhhkjmlnjbnjaaRows
import Derived.Test.YthhhkjmlnjbnjaaOo
import Derived.Test.YthhhkjmlnjbnjaaOf
namespace Go.Proofs.Ythhhkjmlnjbnjaa
attribute [local irreducible] St1 RL RA RT RT1 Run

def RStep (s : Nat) (F : Nat → Prop) (w : World) (E me now req : Int) (L : List (PTr Item)) : Value → World → Prop := fun v w' => ∃ F', v = .int .i64 E ∧ RSndAt w' s F' me now req L ∧ MovedS w F F' ∧ Keeps F w w'
def RMStep (s : Nat) (F : Nat → Prop) (w : World) (T : List HMsg) (me now req : Int) (L : List (PTr Item)) : Value → World → Prop := fun v w' => ∃ a' c' F', v = .slice a' T.length c' ∧ OwnSl w' 46 a' c' T ∧ (∀ q, own a' q → w.heap.size ≤ q) ∧ RSndAt w' s F' me now req L ∧ MovedS w F F' ∧ (∀ q, own a' q → ¬ F' q) ∧ Keeps F w w'
section
variable {w : World} {s : Nat} {F : Nat → Prop} {self now req : Int} {pl : List (PTr Item)}
theorem rbeginD (h : RSndAt w s F self now req pl) (part to : Int) (ak : Option Addr) (keys : List ByteArray) (ck : Nat) (hL : pl.length ≤ 1000) (hka : SlOf w ak keys) (hdk : ∀ x, ak = some x → keys ≠ [] → ¬ F x.block) (hkyl : keys.length ≤ 1048576) (hks : ∀ k ∈ keys, k.size ≤ 4294967295) :
    Calls Try.prog 29 #[.pointer (some ⟨s, 0, none⟩), .int .i64 part, .int .i64 to, .slice ak keys.length ck] w (Ret (RStep s F w (begE self pl part to keys) self now req (begL self pl part to keys (newI (uniq (sortN keys)))))) := by
  obtain ⟨al, cl, ts, rfl, rfl, hD⟩ := h
  refine ret_mono (rbegin_ s al cl self now req ts part to ak keys ck w hD (by rwa [List.length_map] at hL) hka hdk hkyl hks) fun v w' h => ?_
  obtain ⟨al', cl', ts', rfl, h1, h2, h3, h4⟩ := h
  exact ⟨_, rfl, ⟨al', cl', ts', rfl, h2.symm, h1⟩, movedS_of h3, h4⟩
theorem rcancelD (h : RSndAt w s F self now req pl) (part to : Int) (hL : pl.length ≤ 1000) :
    Calls Try.prog 30 #[.pointer (some ⟨s, 0, none⟩), .int .i64 part, .int .i64 to] w (Ret (RStep s F w (canE self pl part to) self now req (canL self pl part to))) := by
  obtain ⟨al, cl, ts, rfl, rfl, hD⟩ := h
  refine ret_mono (rcancel_ s al cl self now req ts part to w hD (by rwa [List.length_map] at hL)) fun v w' h => ?_
  obtain ⟨al', cl', ts', rfl, h1, h2, h3, h4⟩ := h
  exact ⟨_, rfl, ⟨al', cl', ts', rfl, h2.symm, h1⟩, movedS_of h3, h4⟩
theorem rtickD (h : RSndAt w s F self now req pl) (t : Int) (hL : pl.length ≤ 1000) (ht : t ≤ 9223372036854775807) (hr : 0 ≤ req ∧ req ≤ 1000000) :
    Calls Try.prog 32 #[.pointer (some ⟨s, 0, none⟩), .int .i64 t] w (Ret (RMStep s F w (tickP self (max now t) req pl).T self (max now t) (tickP self (max now t) req pl).r (tickP self (max now t) req pl).L)) := by
  obtain ⟨al, cl, ts, rfl, rfl, hD⟩ := h
  refine ret_mono (rtick_ s al cl self now req ts t w hD (by rwa [List.length_map] at hL) ht hr) fun v w' h => ?_
  obtain ⟨a', c', al', cl', ts', rfl, h1, h2, h3, h4, h5, h6, h7⟩ := h
  exact ⟨a', c', _, rfl, h1, h2, ⟨al', cl', ts', rfl, h4.symm, h3⟩, movedS_of h5, h6, h7⟩
theorem ronD (h : RSndAt w s F self now req pl) (m : HMsg) (tm : Int) (hL : pl.length ≤ 1000) (ht : tm ≤ 9223372036854775807) (hr : 0 ≤ req ∧ req ≤ 1000000) :
    Calls Try.prog 33 #[.pointer (some ⟨s, 0, none⟩), .agg #[.int .i64 ((m).kind), .int .i64 ((m).frm), .int .i64 ((m).to), .int .i64 ((m).req), .string ((m).key), .slice (none) (0) (0), .slice (none) (0) (0), .slice (none) (0) (0), .int .i64 (0), .int .i64 ((m).part), .int .i64 (0), .int .i64 (0), .int .i64 (0), .int .i64 (0), .slice (none) (0) (0), .slice (none) (0) (0), .slice (none) (0) (0)], .int .i64 tm] w (Ret (RMStep s F w (onP self (max now tm) req pl m).T self (max now tm) (onP self (max now tm) req pl m).r (onP self (max now tm) req pl m).L)) := by
  obtain ⟨al, cl, ts, rfl, rfl, hD⟩ := h
  refine ret_mono (ron_ s al cl self now req ts m tm w hD (by rwa [List.length_map] at hL) ht hr) fun v w' h => ?_
  obtain ⟨a', c', al', cl', ts', rfl, h1, h2, h3, h4, h5, h6, h7⟩ := h
  exact ⟨a', c', _, rfl, h1, h2, ⟨al', cl', ts', rfl, h4.symm, h3⟩, movedS_of h5, h6, h7⟩
theorem rleftD (h : RSndAt w s F self now req pl) (part to : Int) (hL : pl.length ≤ 1000) : Calls Try.prog 37 #[.pointer (some ⟨s, 0, none⟩), .int .i64 part, .int .i64 to] w (Ret fun v w' => v = .int .i64 ((leftN pl part to : Nat) : Int) ∧ Ext w w') := by
  obtain ⟨al, cl, ts, rfl, rfl, hD⟩ := h
  exact rleft_ s al cl self now req ts part to w hD (by rwa [List.length_map] at hL)
theorem rdoneD (h : RSndAt w s F self now req pl) (part to : Int) (hL : pl.length ≤ 1000) : Calls Try.prog 36 #[.pointer (some ⟨s, 0, none⟩), .int .i64 part, .int .i64 to] w (Ret fun v w' => v = .bool (doneB pl part to) ∧ Ext w w') := by
  obtain ⟨al, cl, ts, rfl, rfl, hD⟩ := h
  exact rdone_ s al cl self now req ts part to w hD (by rwa [List.length_map] at hL)
theorem ropenD (h : RSndAt w s F self now req pl) (hL : pl.length ≤ 1000) : Calls Try.prog 35 #[.pointer (some ⟨s, 0, none⟩)] w (Ret fun v w' => ∃ a' c', v = .slice a' (openL self pl).length c' ∧ OwnSl w' 82 a' c' (openL self pl) ∧ (∀ q, own a' q → w.heap.size ≤ q) ∧ Ext w w') := by
  obtain ⟨al, cl, ts, rfl, rfl, hD⟩ := h
  exact ropen_ s al cl self now req ts w hD (by rwa [List.length_map] at hL)
end
theorem rnewD (self : Int) (w : World) : Calls Try.prog 28 #[.int .i64 self] w (Ret fun v w' => (¬ (0 ≤ self ∧ self < 8) ∧ v = .tuple #[.pointer none, .int .i64 1] ∧ Ext w w') ∨
    ((0 ≤ self ∧ self < 8) ∧ ∃ s F, v = .tuple #[.pointer (some ⟨s, 0, none⟩), .int .i64 0] ∧ RSndAt w' s F self 0 0 [] ∧ (∀ q, F q → w.heap.size ≤ q) ∧ Ext w w')) := by
  refine ret_mono (rnew_ self w) fun v w' h => ?_
  rcases h with h | ⟨h1, s, h2, h3, h4, h5⟩
  · exact .inl h
  · exact .inr ⟨h1, s, _, h2, ⟨none, 0, [], rfl, rfl, h3⟩, h4, h5⟩
theorem equalT {α : Type} [DecidableEq α] {f : FuncId} {a d : Option Addr} {xs : List α} {c e : Nat} {w : World} (h : Calls Try.prog f #[.slice a xs.length c, .slice d xs.length e] w (Ret fun v w' => v = .bool (decide (xs = xs)) ∧ Ext w w')) :
    Calls Try.prog f #[.slice a xs.length c, .slice d xs.length e] w (Ret fun v w' => v = .bool true ∧ Ext w w') := by
  rwa [decide_eq_true (rfl : xs = xs)] at h
/-! ### what a call does to the sizes -/
section
variable {self now req part to : Int} {pl : List (PTr Item)} {keys : List ByteArray} {nl : List Item} {m : HMsg}
theorem without_len : (without pl part to).length ≤ pl.length := by
  unfold without
  split
  · exact delI_len _ _
  · exact Nat.le_refl _
theorem begL_len : (begL self pl part to keys nl).length ≤ pl.length + 1 := by
  unfold begL
  split
  · have := without_len (pl := pl) (part := part) (to := to)
    simp only [List.length_append, List.length_singleton]; omega
  · omega
theorem canL_len : (canL self pl part to).length ≤ pl.length := by
  unfold canL
  split
  · exact without_len
  · omega
theorem tick_b : req ≤ (tickP self now req pl).r ∧ (tickP self now req pl).r ≤ req + 4 * (pl.length : Int) ∧ (tickP self now req pl).T.length ≤ 4 * pl.length ∧ (tickP self now req pl).L.length = pl.length := tkI_r _ (Nat.le_refl _)
theorem on_b : req ≤ (onP self now req pl m).r ∧ (onP self now req pl m).r ≤ req + 4 ∧ (onP self now req pl m).T.length ≤ 4 ∧ (onP self now req pl m).L.length = pl.length := by
  have h0 : req ≤ req ∧ req ≤ req + 4 ∧ ([] : List HMsg).length ≤ 4 ∧ pl.length = pl.length := ⟨by omega, by omega, by simp, rfl⟩
  unfold onP
  split
  · split
    · split
      · split
        · rename_i t _ _ k _
          obtain ⟨h1, h2⟩ := tellP_T (now := now) (r := req) (l := delI t.left k)
          refine ⟨?_, ?_, ?_, List.length_set ..⟩
          · show req ≤ (tellP now req (delI t.left k)).r; omega
          · show (tellP now req (delI t.left k)).r ≤ req + 4; omega
          · simp only [List.length_map]; exact h1
        · exact h0
      · exact h0
    · exact h0
  · exact h0
end

theorem ty33 : Ty Try.prog 33 1 24 (.slice (none) (0) (0)) false := ty_of (by kernel_rfl) (by kernel_rfl)
theorem ty34 : Ty Try.prog 34 1 24 (.slice (none) (0) (0)) false := ty_of (by kernel_rfl) (by kernel_rfl)
theorem ty35 : Ty Try.prog 35 1 24 (.slice (none) (0) (0)) false := ty_of (by kernel_rfl) (by kernel_rfl)
theorem ty37 : Ty Try.prog 37 2 48 (.agg #[.slice (none) (0) (0), .slice (none) (0) (0)]) true := ty_of (by kernel_rfl) (by kernel_rfl)
theorem ty39 : Ty Try.prog 39 3 72 (.agg #[.slice (none) (0) (0), .slice (none) (0) (0), .slice (none) (0) (0)]) true := ty_of (by kernel_rfl) (by kernel_rfl)
theorem ty40 : Ty Try.prog 40 1 24 (.slice (none) (0) (0)) false := ty_of (by kernel_rfl) (by kernel_rfl)
theorem ty42 : Ty Try.prog 42 4 48 (.agg #[.int .i64 (0), .int .i64 (0), .int .i64 (0), .slice (none) (0) (0)]) true := ty_of (by kernel_rfl) (by kernel_rfl)
theorem ty43 : Ty Try.prog 43 1 24 (.slice (none) (0) (0)) false := ty_of (by kernel_rfl) (by kernel_rfl)
theorem ty44 : Ty Try.prog 44 1 24 (.slice (none) (0) (0)) false := ty_of (by kernel_rfl) (by kernel_rfl)
theorem en59 : Enters Try.prog 59 := enters_of Try.func59 rfl (by kernel_rfl)
theorem en60 : Enters Try.prog 60 := enters_of Try.func60 rfl (by kernel_rfl)
theorem en70 : Enters Try.prog 70 := enters_of Try.func70 rfl (by kernel_rfl)
theorem en71 : Enters Try.prog 71 := enters_of Try.func71 rfl (by kernel_rfl)
theorem en72 : Enters Try.prog 72 := enters_of Try.func72 rfl (by kernel_rfl)
theorem en73 : Enters Try.prog 73 := enters_of Try.func73 rfl (by kernel_rfl)
theorem en86 : Enters Try.prog 86 := enters_of Try.func86 rfl (by kernel_rfl)
theorem en87 : Enters Try.prog 87 := enters_of Try.func87 rfl (by kernel_rfl)
theorem en88 : Enters Try.prog 88 := enters_of Try.func88 rfl (by kernel_rfl)
theorem en95 : Enters Try.prog 95 := enters_of Try.func95 rfl (by kernel_rfl)
theorem en96 : Enters Try.prog 96 := enters_of Try.func96 rfl (by kernel_rfl)

set_option maxRecDepth 100000 in
set_option maxHeartbeats 4000000 in
theorem equalNil_Peer (w : World) :
    Calls Try.prog 72 #[.slice (none) (0) (0), .slice (none) (0) (0)] w (Ret (fun v w' => v = .bool true ∧ Ext w w')) := by
  refine calls_run (n := 26) Try.func72 rfl rfl rfl ?_
  refine Run.seq ?_
  refine Run.region ?_
  refine RL.val (x_assignB rfl) ?_
  refine RL.nil ?_
  refine Run.seq ?_
  refine Run.seq ?_
  refine Run.region ?_
  refine RL.val (x_moveSl rfl) ?_
  refine RL.val (litI (c := 0) (x_lenSl Try.underlying43 rfl) rfl) ?_
  refine RL.val (x_moveSl rfl) ?_
  refine RL.val (litI (c := 0) (x_lenSl Try.underlying43 rfl) rfl) ?_
  refine RL.val (litF (x_neI rfl rfl) (by decide)) ?_
  refine RL.nil ?_
  refine Run.condF rfl ?_
  refine Run.skip ?_
  refine Run.seq ?_
  refine Run.seq ?_
  refine Run.region ?_
  refine RL.val (x_moveSl rfl) ?_
  refine RL.val (litI (c := 0) (x_lenSl Try.underlying43 rfl) rfl) ?_
  refine RL.val (x_moveI rfl) ?_
  refine RL.nil ?_
  refine Run.block ?_
  refine Run.unloop ?_
  refine Run.seq ?_
  refine Run.region ?_
  refine RL.val (litF (x_ltI rfl rfl) (by decide)) ?_
  refine RL.nil ?_
  refine Run.seq ?_
  refine Run.condF rfl ?_
  refine Run.exit rfl ?_
  refine Run.seq ?_
  refine Run.region ?_
  refine RL.val (x_assignB rfl) ?_
  refine RL.nil ?_
  refine Run.ret1 (v := .bool (true)) Try.func72 rfl rfl ?_
  exact ⟨_, rfl, rfl, (Keeps.refl _ w)⟩

set_option maxRecDepth 100000 in
set_option maxHeartbeats 4000000 in
theorem equalNil_Sum (w : World) :
    Calls Try.prog 73 #[.slice (none) (0) (0), .slice (none) (0) (0)] w (Ret (fun v w' => v = .bool true ∧ Ext w w')) := by
  refine calls_run (n := 26) Try.func73 rfl rfl rfl ?_
  refine Run.seq ?_
  refine Run.region ?_
  refine RL.val (x_assignB rfl) ?_
  refine RL.nil ?_
  refine Run.seq ?_
  refine Run.seq ?_
  refine Run.region ?_
  refine RL.val (x_moveSl rfl) ?_
  refine RL.val (litI (c := 0) (x_lenSl Try.underlying44 rfl) rfl) ?_
  refine RL.val (x_moveSl rfl) ?_
  refine RL.val (litI (c := 0) (x_lenSl Try.underlying44 rfl) rfl) ?_
  refine RL.val (litF (x_neI rfl rfl) (by decide)) ?_
  refine RL.nil ?_
  refine Run.condF rfl ?_
  refine Run.skip ?_
  refine Run.seq ?_
  refine Run.seq ?_
  refine Run.region ?_
  refine RL.val (x_moveSl rfl) ?_
  refine RL.val (litI (c := 0) (x_lenSl Try.underlying44 rfl) rfl) ?_
  refine RL.val (x_moveI rfl) ?_
  refine RL.nil ?_
  refine Run.block ?_
  refine Run.unloop ?_
  refine Run.seq ?_
  refine Run.region ?_
  refine RL.val (litF (x_ltI rfl rfl) (by decide)) ?_
  refine RL.nil ?_
  refine Run.seq ?_
  refine Run.condF rfl ?_
  refine Run.exit rfl ?_
  refine Run.seq ?_
  refine Run.region ?_
  refine RL.val (x_assignB rfl) ?_
  refine RL.nil ?_
  refine Run.ret1 (v := .bool (true)) Try.func73 rfl rfl ?_
  exact ⟨_, rfl, rfl, (Keeps.refl _ w)⟩

set_option maxRecDepth 100000 in
set_option maxHeartbeats 4000000 in
theorem equalNil_Entry (w : World) :
    Calls Try.prog 86 #[.slice (none) (0) (0), .slice (none) (0) (0)] w (Ret (fun v w' => v = .bool true ∧ Ext w w')) := by
  refine calls_run (n := 26) Try.func86 rfl rfl rfl ?_
  refine Run.seq ?_
  refine Run.region ?_
  refine RL.val (x_assignB rfl) ?_
  refine RL.nil ?_
  refine Run.seq ?_
  refine Run.seq ?_
  refine Run.region ?_
  refine RL.val (x_moveSl rfl) ?_
  refine RL.val (litI (c := 0) (x_lenSl Try.underlying33 rfl) rfl) ?_
  refine RL.val (x_moveSl rfl) ?_
  refine RL.val (litI (c := 0) (x_lenSl Try.underlying33 rfl) rfl) ?_
  refine RL.val (litF (x_neI rfl rfl) (by decide)) ?_
  refine RL.nil ?_
  refine Run.condF rfl ?_
  refine Run.skip ?_
  refine Run.seq ?_
  refine Run.seq ?_
  refine Run.region ?_
  refine RL.val (x_moveSl rfl) ?_
  refine RL.val (litI (c := 0) (x_lenSl Try.underlying33 rfl) rfl) ?_
  refine RL.val (x_moveI rfl) ?_
  refine RL.nil ?_
  refine Run.block ?_
  refine Run.unloop ?_
  refine Run.seq ?_
  refine Run.region ?_
  refine RL.val (litF (x_ltI rfl rfl) (by decide)) ?_
  refine RL.nil ?_
  refine Run.seq ?_
  refine Run.condF rfl ?_
  refine Run.exit rfl ?_
  refine Run.seq ?_
  refine Run.region ?_
  refine RL.val (x_assignB rfl) ?_
  refine RL.nil ?_
  refine Run.ret1 (v := .bool (true)) Try.func86 rfl rfl ?_
  exact ⟨_, rfl, rfl, (Keeps.refl _ w)⟩

set_option maxRecDepth 100000 in
set_option maxHeartbeats 4000000 in
theorem equalNil_Member (w : World) :
    Calls Try.prog 88 #[.slice (none) (0) (0), .slice (none) (0) (0)] w (Ret (fun v w' => v = .bool true ∧ Ext w w')) := by
  refine calls_run (n := 26) Try.func88 rfl rfl rfl ?_
  refine Run.seq ?_
  refine Run.region ?_
  refine RL.val (x_assignB rfl) ?_
  refine RL.nil ?_
  refine Run.seq ?_
  refine Run.seq ?_
  refine Run.region ?_
  refine RL.val (x_moveSl rfl) ?_
  refine RL.val (litI (c := 0) (x_lenSl Try.underlying40 rfl) rfl) ?_
  refine RL.val (x_moveSl rfl) ?_
  refine RL.val (litI (c := 0) (x_lenSl Try.underlying40 rfl) rfl) ?_
  refine RL.val (litF (x_neI rfl rfl) (by decide)) ?_
  refine RL.nil ?_
  refine Run.condF rfl ?_
  refine Run.skip ?_
  refine Run.seq ?_
  refine Run.seq ?_
  refine Run.region ?_
  refine RL.val (x_moveSl rfl) ?_
  refine RL.val (litI (c := 0) (x_lenSl Try.underlying40 rfl) rfl) ?_
  refine RL.val (x_moveI rfl) ?_
  refine RL.nil ?_
  refine Run.block ?_
  refine Run.unloop ?_
  refine Run.seq ?_
  refine Run.region ?_
  refine RL.val (litF (x_ltI rfl rfl) (by decide)) ?_
  refine RL.nil ?_
  refine Run.seq ?_
  refine Run.condF rfl ?_
  refine Run.exit rfl ?_
  refine Run.seq ?_
  refine Run.region ?_
  refine RL.val (x_assignB rfl) ?_
  refine RL.nil ?_
  refine Run.ret1 (v := .bool (true)) Try.func88 rfl rfl ?_
  exact ⟨_, rfl, rfl, (Keeps.refl _ w)⟩

set_option maxRecDepth 100000 in
set_option maxHeartbeats 4000000 in
theorem equalNil_Mark (w : World) :
    Calls Try.prog 95 #[.slice (none) (0) (0), .slice (none) (0) (0)] w (Ret (fun v w' => v = .bool true ∧ Ext w w')) := by
  refine calls_run (n := 26) Try.func95 rfl rfl rfl ?_
  refine Run.seq ?_
  refine Run.region ?_
  refine RL.val (x_assignB rfl) ?_
  refine RL.nil ?_
  refine Run.seq ?_
  refine Run.seq ?_
  refine Run.region ?_
  refine RL.val (x_moveSl rfl) ?_
  refine RL.val (litI (c := 0) (x_lenSl Try.underlying34 rfl) rfl) ?_
  refine RL.val (x_moveSl rfl) ?_
  refine RL.val (litI (c := 0) (x_lenSl Try.underlying34 rfl) rfl) ?_
  refine RL.val (litF (x_neI rfl rfl) (by decide)) ?_
  refine RL.nil ?_
  refine Run.condF rfl ?_
  refine Run.skip ?_
  refine Run.seq ?_
  refine Run.seq ?_
  refine Run.region ?_
  refine RL.val (x_moveSl rfl) ?_
  refine RL.val (litI (c := 0) (x_lenSl Try.underlying34 rfl) rfl) ?_
  refine RL.val (x_moveI rfl) ?_
  refine RL.nil ?_
  refine Run.block ?_
  refine Run.unloop ?_
  refine Run.seq ?_
  refine Run.region ?_
  refine RL.val (litF (x_ltI rfl rfl) (by decide)) ?_
  refine RL.nil ?_
  refine Run.seq ?_
  refine Run.condF rfl ?_
  refine Run.exit rfl ?_
  refine Run.seq ?_
  refine Run.region ?_
  refine RL.val (x_assignB rfl) ?_
  refine RL.nil ?_
  refine Run.ret1 (v := .bool (true)) Try.func95 rfl rfl ?_
  exact ⟨_, rfl, rfl, (Keeps.refl _ w)⟩

set_option maxRecDepth 100000 in
set_option maxHeartbeats 4000000 in
theorem equalNil_Dot (w : World) :
    Calls Try.prog 96 #[.slice (none) (0) (0), .slice (none) (0) (0)] w (Ret (fun v w' => v = .bool true ∧ Ext w w')) := by
  refine calls_run (n := 26) Try.func96 rfl rfl rfl ?_
  refine Run.seq ?_
  refine Run.region ?_
  refine RL.val (x_assignB rfl) ?_
  refine RL.nil ?_
  refine Run.seq ?_
  refine Run.seq ?_
  refine Run.region ?_
  refine RL.val (x_moveSl rfl) ?_
  refine RL.val (litI (c := 0) (x_lenSl Try.underlying35 rfl) rfl) ?_
  refine RL.val (x_moveSl rfl) ?_
  refine RL.val (litI (c := 0) (x_lenSl Try.underlying35 rfl) rfl) ?_
  refine RL.val (litF (x_neI rfl rfl) (by decide)) ?_
  refine RL.nil ?_
  refine Run.condF rfl ?_
  refine Run.skip ?_
  refine Run.seq ?_
  refine Run.seq ?_
  refine Run.region ?_
  refine RL.val (x_moveSl rfl) ?_
  refine RL.val (litI (c := 0) (x_lenSl Try.underlying35 rfl) rfl) ?_
  refine RL.val (x_moveI rfl) ?_
  refine RL.nil ?_
  refine Run.block ?_
  refine Run.unloop ?_
  refine Run.seq ?_
  refine Run.region ?_
  refine RL.val (litF (x_ltI rfl rfl) (by decide)) ?_
  refine RL.nil ?_
  refine Run.seq ?_
  refine Run.condF rfl ?_
  refine Run.exit rfl ?_
  refine Run.seq ?_
  refine Run.region ?_
  refine RL.val (x_assignB rfl) ?_
  refine RL.nil ?_
  refine Run.ret1 (v := .bool (true)) Try.func96 rfl rfl ?_
  exact ⟨_, rfl, rfl, (Keeps.refl _ w)⟩

set_option maxRecDepth 100000 in
set_option maxHeartbeats 4000000 in
theorem sameContext_ (w : World) :
    Calls Try.prog 87 #[.agg #[.slice (none) (0) (0), .slice (none) (0) (0)], .agg #[.slice (none) (0) (0), .slice (none) (0) (0)]] w (Ret (fun v w' => v = .bool true ∧ Ext w w')) := by
  refine calls_run (n := 17) Try.func87 rfl rfl rfl ?_
  refine Run.seq ?_
  refine Run.region ?_
  refine RL.st rfl <| St1.box (v := .agg #[.slice (none) (0) (0), .slice (none) (0) (0)]) rfl ?_
  intro b_1 w_2 hl_5 hb_4 K_3
  replace hb_4 : Blk w_2 b_1 [.slice (none) (0) (0), .slice (none) (0) (0)] 37 := hb_4
  have : w.heap.size ≤ b_1 := hl_5
  clear hl_5
  have K0 := (K_3 : Ext w _)
  refine RL.st rfl <| St1.box (v := .agg #[.slice (none) (0) (0), .slice (none) (0) (0)]) rfl ?_
  intro b_6 w_7 hl_10 hb_9 K_8
  replace hb_9 : Blk w_7 b_6 [.slice (none) (0) (0), .slice (none) (0) (0)] 37 := hb_9
  have ne_11 : b_1 < b_6 := Nat.lt_of_lt_of_le hb_4.lt hl_10
  have : w.heap.size ≤ b_6 := Nat.le_trans K0.size hl_10
  clear hl_10
  replace hb_4 := hb_4.ext K_8
  replace K0 := K0.ext K_8
  refine RL.val (x_assignB rfl) ?_
  refine RL.nil ?_
  refine Run.seq ?_
  refine Run.region ?_
  refine RL.val (x_fld (o' := 0) Try.underlying37 rfl ty34 rfl rfl rfl) ?_
  refine RL.val (x_ld (v := .slice (none) (0) (0)) ty34 rfl rfl (hb_4.cl.field (i := 0) rfl)) ?_
  refine RL.val (x_fld (o' := 0) Try.underlying37 rfl ty34 rfl rfl rfl) ?_
  refine RL.val (x_ld (v := .slice (none) (0) (0)) ty34 rfl rfl (hb_9.cl.field (i := 0) rfl)) ?_
  refine RL.st rfl <| St1.call (vals := [.slice (none) (0) (0), .slice (none) (0) (0)]) en95 rfl (equalNil_Mark _) ?_
  rintro _ w_12 ⟨rfl, K_13⟩
  replace hb_4 := hb_4.ext K_13
  replace hb_9 := hb_9.ext K_13
  replace K0 := K0.ext K_13
  refine RL.val (x_moveB rfl) ?_
  refine RL.gst (wantedT1 rfl rfl rfl rfl) <| St1.val (x_fld (o' := 1) Try.underlying37 rfl ty35 rfl rfl rfl) ?_
  refine RL.gst (wantedT1 rfl rfl rfl rfl) <| St1.val (x_ld (v := .slice (none) (0) (0)) ty35 rfl rfl (hb_4.cl.field (i := 1) rfl)) ?_
  refine RL.gst (wantedT1 rfl rfl rfl rfl) <| St1.val (x_fld (o' := 1) Try.underlying37 rfl ty35 rfl rfl rfl) ?_
  refine RL.gst (wantedT1 rfl rfl rfl rfl) <| St1.val (x_ld (v := .slice (none) (0) (0)) ty35 rfl rfl (hb_9.cl.field (i := 1) rfl)) ?_
  refine RL.gst (wantedT1 rfl rfl rfl rfl) <| St1.call (vals := [.slice (none) (0) (0), .slice (none) (0) (0)]) en96 rfl (equalNil_Dot _) ?_
  rintro _ w_14 ⟨rfl, K_15⟩
  replace hb_4 := hb_4.ext K_15
  replace hb_9 := hb_9.ext K_15
  replace K0 := K0.ext K_15
  refine RL.val (x_andT rfl rfl rfl) ?_
  refine RL.val (x_assignB rfl) ?_
  refine RL.nil ?_
  refine Run.ret1 (v := .bool (true)) Try.func87 rfl rfl ?_
  exact ⟨_, rfl, rfl, K0⟩

set_option maxRecDepth 100000 in
set_option maxHeartbeats 4000000 in
theorem sameCart_ (w : World) :
    Calls Try.prog 70 #[.agg #[.slice (none) (0) (0), .slice (none) (0) (0), .slice (none) (0) (0)], .agg #[.slice (none) (0) (0), .slice (none) (0) (0), .slice (none) (0) (0)]] w (Ret (fun v w' => v = .bool true ∧ Ext w w')) := by
  refine calls_run (n := 17) Try.func70 rfl rfl rfl ?_
  refine Run.seq ?_
  refine Run.region ?_
  refine RL.st rfl <| St1.box (v := .agg #[.slice (none) (0) (0), .slice (none) (0) (0), .slice (none) (0) (0)]) rfl ?_
  intro b_1 w_2 hl_5 hb_4 K_3
  replace hb_4 : Blk w_2 b_1 [.slice (none) (0) (0), .slice (none) (0) (0), .slice (none) (0) (0)] 39 := hb_4
  have : w.heap.size ≤ b_1 := hl_5
  clear hl_5
  have K0 := (K_3 : Ext w _)
  refine RL.st rfl <| St1.box (v := .agg #[.slice (none) (0) (0), .slice (none) (0) (0), .slice (none) (0) (0)]) rfl ?_
  intro b_6 w_7 hl_10 hb_9 K_8
  replace hb_9 : Blk w_7 b_6 [.slice (none) (0) (0), .slice (none) (0) (0), .slice (none) (0) (0)] 39 := hb_9
  have ne_11 : b_1 < b_6 := Nat.lt_of_lt_of_le hb_4.lt hl_10
  have : w.heap.size ≤ b_6 := Nat.le_trans K0.size hl_10
  clear hl_10
  replace hb_4 := hb_4.ext K_8
  replace K0 := K0.ext K_8
  refine RL.val (x_assignB rfl) ?_
  refine RL.nil ?_
  refine Run.seq ?_
  refine Run.region ?_
  refine RL.val (x_fld (o' := 0) Try.underlying39 rfl ty33 rfl rfl rfl) ?_
  refine RL.val (x_ld (v := .slice (none) (0) (0)) ty33 rfl rfl (hb_4.cl.field (i := 0) rfl)) ?_
  refine RL.val (x_fld (o' := 0) Try.underlying39 rfl ty33 rfl rfl rfl) ?_
  refine RL.val (x_ld (v := .slice (none) (0) (0)) ty33 rfl rfl (hb_9.cl.field (i := 0) rfl)) ?_
  refine RL.st rfl <| St1.call (vals := [.slice (none) (0) (0), .slice (none) (0) (0)]) en86 rfl (equalNil_Entry _) ?_
  rintro _ w_12 ⟨rfl, K_13⟩
  replace hb_4 := hb_4.ext K_13
  replace hb_9 := hb_9.ext K_13
  replace K0 := K0.ext K_13
  refine RL.val (x_moveB rfl) ?_
  refine RL.gst (wantedT1 rfl rfl rfl rfl) <| St1.val (x_fld (o' := 1) Try.underlying39 rfl ty37 rfl rfl rfl) ?_
  refine RL.gst (wantedT1 rfl rfl rfl rfl) <| St1.val (x_lds (cs := #[.slice (none) (0) (0), .slice (none) (0) (0)]) ty37 rfl rfl (hb_4.cl.drop 1 2)) ?_
  refine RL.gst (wantedT1 rfl rfl rfl rfl) <| St1.val (x_fld (o' := 1) Try.underlying39 rfl ty37 rfl rfl rfl) ?_
  refine RL.gst (wantedT1 rfl rfl rfl rfl) <| St1.val (x_lds (cs := #[.slice (none) (0) (0), .slice (none) (0) (0)]) ty37 rfl rfl (hb_9.cl.drop 1 2)) ?_
  refine RL.gst (wantedT1 rfl rfl rfl rfl) <| St1.call (vals := [.agg #[.slice (none) (0) (0), .slice (none) (0) (0)], .agg #[.slice (none) (0) (0), .slice (none) (0) (0)]]) en87 rfl (sameContext_ _) ?_
  rintro _ w_14 ⟨rfl, K_15⟩
  replace hb_4 := hb_4.ext K_15
  replace hb_9 := hb_9.ext K_15
  replace K0 := K0.ext K_15
  refine RL.val (x_andT rfl rfl rfl) ?_
  refine RL.val (x_assignB rfl) ?_
  refine RL.nil ?_
  refine Run.ret1 (v := .bool (true)) Try.func70 rfl rfl ?_
  exact ⟨_, rfl, rfl, K0⟩

set_option maxRecDepth 100000 in
set_option maxHeartbeats 4000000 in
theorem sameRing_ (w : World) :
    Calls Try.prog 71 #[.agg #[.int .i64 (0), .int .i64 (0), .int .i64 (0), .slice (none) (0) (0)], .agg #[.int .i64 (0), .int .i64 (0), .int .i64 (0), .slice (none) (0) (0)]] w (Ret (fun v w' => v = .bool true ∧ Ext w w')) := by
  refine calls_run (n := 31) Try.func71 rfl rfl rfl ?_
  refine Run.seq ?_
  refine Run.region ?_
  refine RL.st rfl <| St1.box (v := .agg #[.int .i64 (0), .int .i64 (0), .int .i64 (0), .slice (none) (0) (0)]) rfl ?_
  intro b_1 w_2 hl_5 hb_4 K_3
  replace hb_4 : Blk w_2 b_1 [.int .i64 (0), .int .i64 (0), .int .i64 (0), .slice (none) (0) (0)] 42 := hb_4
  have : w.heap.size ≤ b_1 := hl_5
  clear hl_5
  have K0 := (K_3 : Ext w _)
  refine RL.st rfl <| St1.box (v := .agg #[.int .i64 (0), .int .i64 (0), .int .i64 (0), .slice (none) (0) (0)]) rfl ?_
  intro b_6 w_7 hl_10 hb_9 K_8
  replace hb_9 : Blk w_7 b_6 [.int .i64 (0), .int .i64 (0), .int .i64 (0), .slice (none) (0) (0)] 42 := hb_9
  have ne_11 : b_1 < b_6 := Nat.lt_of_lt_of_le hb_4.lt hl_10
  have : w.heap.size ≤ b_6 := Nat.le_trans K0.size hl_10
  clear hl_10
  replace hb_4 := hb_4.ext K_8
  replace K0 := K0.ext K_8
  refine RL.val (x_assignB rfl) ?_
  refine RL.nil ?_
  refine Run.seq ?_
  refine Run.region ?_
  refine RL.val (x_fld (o' := 0) Try.underlying42 rfl ty3 rfl rfl rfl) ?_
  refine RL.val (x_ld (v := .int .i64 (0)) ty3 rfl rfl (hb_4.cl.field (i := 0) rfl)) ?_
  refine RL.val (x_fld (o' := 0) Try.underlying42 rfl ty3 rfl rfl rfl) ?_
  refine RL.val (x_ld (v := .int .i64 (0)) ty3 rfl rfl (hb_9.cl.field (i := 0) rfl)) ?_
  refine RL.val (litT (x_eqI rfl rfl) (by decide)) ?_
  refine RL.val (x_moveB rfl) ?_
  refine RL.gst (wantedT1 rfl rfl rfl rfl) <| St1.val (x_fld (o' := 1) Try.underlying42 rfl ty3 rfl rfl rfl) ?_
  refine RL.gst (wantedT1 rfl rfl rfl rfl) <| St1.val (x_ld (v := .int .i64 (0)) ty3 rfl rfl (hb_4.cl.field (i := 1) rfl)) ?_
  refine RL.gst (wantedT1 rfl rfl rfl rfl) <| St1.val (x_fld (o' := 1) Try.underlying42 rfl ty3 rfl rfl rfl) ?_
  refine RL.gst (wantedT1 rfl rfl rfl rfl) <| St1.val (x_ld (v := .int .i64 (0)) ty3 rfl rfl (hb_9.cl.field (i := 1) rfl)) ?_
  refine RL.gst (wantedT1 rfl rfl rfl rfl) <| St1.val (litT (x_eqI rfl rfl) (by decide)) ?_
  refine RL.val (x_andT rfl rfl rfl) ?_
  refine RL.val (x_moveB rfl) ?_
  refine RL.gst (wantedT1 rfl rfl rfl rfl) <| St1.val (x_fld (o' := 2) Try.underlying42 rfl ty3 rfl rfl rfl) ?_
  refine RL.gst (wantedT1 rfl rfl rfl rfl) <| St1.val (x_ld (v := .int .i64 (0)) ty3 rfl rfl (hb_4.cl.field (i := 2) rfl)) ?_
  refine RL.gst (wantedT1 rfl rfl rfl rfl) <| St1.val (x_fld (o' := 2) Try.underlying42 rfl ty3 rfl rfl rfl) ?_
  refine RL.gst (wantedT1 rfl rfl rfl rfl) <| St1.val (x_ld (v := .int .i64 (0)) ty3 rfl rfl (hb_9.cl.field (i := 2) rfl)) ?_
  refine RL.gst (wantedT1 rfl rfl rfl rfl) <| St1.val (litT (x_eqI rfl rfl) (by decide)) ?_
  refine RL.val (x_andT rfl rfl rfl) ?_
  refine RL.val (x_moveB rfl) ?_
  refine RL.gst (wantedT1 rfl rfl rfl rfl) <| St1.val (x_fld (o' := 3) Try.underlying42 rfl ty40 rfl rfl rfl) ?_
  refine RL.gst (wantedT1 rfl rfl rfl rfl) <| St1.val (x_ld (v := .slice (none) (0) (0)) ty40 rfl rfl (hb_4.cl.field (i := 3) rfl)) ?_
  refine RL.gst (wantedT1 rfl rfl rfl rfl) <| St1.val (x_fld (o' := 3) Try.underlying42 rfl ty40 rfl rfl rfl) ?_
  refine RL.gst (wantedT1 rfl rfl rfl rfl) <| St1.val (x_ld (v := .slice (none) (0) (0)) ty40 rfl rfl (hb_9.cl.field (i := 3) rfl)) ?_
  refine RL.gst (wantedT1 rfl rfl rfl rfl) <| St1.call (vals := [.slice (none) (0) (0), .slice (none) (0) (0)]) en88 rfl (equalNil_Member _) ?_
  rintro _ w_12 ⟨rfl, K_13⟩
  replace hb_4 := hb_4.ext K_13
  replace hb_9 := hb_9.ext K_13
  replace K0 := K0.ext K_13
  refine RL.val (x_andT rfl rfl rfl) ?_
  refine RL.val (x_assignB rfl) ?_
  refine RL.nil ?_
  refine Run.ret1 (v := .bool (true)) Try.func71 rfl rfl ?_
  exact ⟨_, rfl, rfl, K0⟩

set_option maxRecDepth 100000 in
set_option maxHeartbeats 4000000 in
theorem sameMsg_ (x : HMsg) (w : World) :
    Calls Try.prog 60 #[.agg #[.int .i64 ((x).kind), .int .i64 ((x).frm), .int .i64 ((x).to), .int .i64 ((x).req), .string ((x).key), .slice (none) (0) (0), .slice (none) (0) (0), .slice (none) (0) (0), .int .i64 (0), .int .i64 ((x).part), .int .i64 (0), .int .i64 (0), .int .i64 (0), .int .i64 (0), .slice (none) (0) (0), .slice (none) (0) (0), .slice (none) (0) (0)], .agg #[.int .i64 ((x).kind), .int .i64 ((x).frm), .int .i64 ((x).to), .int .i64 ((x).req), .string ((x).key), .slice (none) (0) (0), .slice (none) (0) (0), .slice (none) (0) (0), .int .i64 (0), .int .i64 ((x).part), .int .i64 (0), .int .i64 (0), .int .i64 (0), .int .i64 (0), .slice (none) (0) (0), .slice (none) (0) (0), .slice (none) (0) (0)]] w (Ret (fun v w' => v = .bool true ∧ Ext w w')) := by
  refine calls_run (n := 85) Try.func60 rfl rfl rfl ?_
  refine Run.seq ?_
  refine Run.region ?_
  refine RL.st rfl <| St1.box (v := .agg #[.int .i64 ((x).kind), .int .i64 ((x).frm), .int .i64 ((x).to), .int .i64 ((x).req), .string ((x).key), .slice (none) (0) (0), .slice (none) (0) (0), .slice (none) (0) (0), .int .i64 (0), .int .i64 ((x).part), .int .i64 (0), .int .i64 (0), .int .i64 (0), .int .i64 (0), .slice (none) (0) (0), .slice (none) (0) (0), .slice (none) (0) (0)]) rfl ?_
  intro b_1 w_2 hl_5 hb_4 K_3
  replace hb_4 : Blk w_2 b_1 [.int .i64 ((x).kind), .int .i64 ((x).frm), .int .i64 ((x).to), .int .i64 ((x).req), .string ((x).key), .slice (none) (0) (0), .slice (none) (0) (0), .slice (none) (0) (0), .int .i64 (0), .int .i64 ((x).part), .int .i64 (0), .int .i64 (0), .int .i64 (0), .int .i64 (0), .slice (none) (0) (0), .slice (none) (0) (0), .slice (none) (0) (0)] 46 := hb_4
  have : w.heap.size ≤ b_1 := hl_5
  clear hl_5
  have K0 := (K_3 : Ext w _)
  refine RL.st rfl <| St1.box (v := .agg #[.int .i64 ((x).kind), .int .i64 ((x).frm), .int .i64 ((x).to), .int .i64 ((x).req), .string ((x).key), .slice (none) (0) (0), .slice (none) (0) (0), .slice (none) (0) (0), .int .i64 (0), .int .i64 ((x).part), .int .i64 (0), .int .i64 (0), .int .i64 (0), .int .i64 (0), .slice (none) (0) (0), .slice (none) (0) (0), .slice (none) (0) (0)]) rfl ?_
  intro b_6 w_7 hl_10 hb_9 K_8
  replace hb_9 : Blk w_7 b_6 [.int .i64 ((x).kind), .int .i64 ((x).frm), .int .i64 ((x).to), .int .i64 ((x).req), .string ((x).key), .slice (none) (0) (0), .slice (none) (0) (0), .slice (none) (0) (0), .int .i64 (0), .int .i64 ((x).part), .int .i64 (0), .int .i64 (0), .int .i64 (0), .int .i64 (0), .slice (none) (0) (0), .slice (none) (0) (0), .slice (none) (0) (0)] 46 := hb_9
  have ne_11 : b_1 < b_6 := Nat.lt_of_lt_of_le hb_4.lt hl_10
  have : w.heap.size ≤ b_6 := Nat.le_trans K0.size hl_10
  clear hl_10
  replace hb_4 := hb_4.ext K_8
  replace K0 := K0.ext K_8
  refine RL.val (x_assignB rfl) ?_
  refine RL.nil ?_
  refine Run.seq ?_
  refine Run.seq ?_
  refine Run.region ?_
  refine RL.val (x_fld (o' := 0) Try.underlying46 rfl ty3 rfl rfl rfl) ?_
  refine RL.val (x_ld (v := .int .i64 ((x).kind)) ty3 rfl rfl (hb_4.cl.field (i := 0) rfl)) ?_
  refine RL.val (x_fld (o' := 0) Try.underlying46 rfl ty3 rfl rfl rfl) ?_
  refine RL.val (x_ld (v := .int .i64 ((x).kind)) ty3 rfl rfl (hb_9.cl.field (i := 0) rfl)) ?_
  refine RL.val (x_neI rfl rfl) ?_
  refine RL.val (x_moveB rfl) ?_
  refine RL.gval (wantedF rfl rfl rfl rfl) (fun hg => (x_fld (o' := 1) Try.underlying46 rfl ty3 rfl rfl rfl)) ?_
  refine RL.gval (wantedF rfl rfl rfl rfl) (fun hg => (x_ld (v := .int .i64 ((x).frm)) ty3 (gvr hg) rfl (hb_4.cl.field (i := 1) rfl))) ?_
  refine RL.gval (wantedF rfl rfl rfl rfl) (fun hg => (x_fld (o' := 1) Try.underlying46 rfl ty3 rfl rfl rfl)) ?_
  refine RL.gval (wantedF rfl rfl rfl rfl) (fun hg => (x_ld (v := .int .i64 ((x).frm)) ty3 (gvr hg) rfl (hb_9.cl.field (i := 1) rfl))) ?_
  refine RL.gval (wantedF rfl rfl rfl rfl) (fun hg => (x_neI (gvr hg) (gvr hg))) ?_
  refine RL.val (x_or rfl rfl rfl) ?_
  refine RL.val (x_moveB rfl) ?_
  refine RL.gval (wantedF rfl rfl rfl rfl) (fun hg => (x_fld (o' := 2) Try.underlying46 rfl ty3 rfl rfl rfl)) ?_
  refine RL.gval (wantedF rfl rfl rfl rfl) (fun hg => (x_ld (v := .int .i64 ((x).to)) ty3 (gvr hg) rfl (hb_4.cl.field (i := 2) rfl))) ?_
  refine RL.gval (wantedF rfl rfl rfl rfl) (fun hg => (x_fld (o' := 2) Try.underlying46 rfl ty3 rfl rfl rfl)) ?_
  refine RL.gval (wantedF rfl rfl rfl rfl) (fun hg => (x_ld (v := .int .i64 ((x).to)) ty3 (gvr hg) rfl (hb_9.cl.field (i := 2) rfl))) ?_
  refine RL.gval (wantedF rfl rfl rfl rfl) (fun hg => (x_neI (gvr hg) (gvr hg))) ?_
  refine RL.val (x_or rfl rfl rfl) ?_
  refine RL.val (x_moveB rfl) ?_
  refine RL.gval (wantedF rfl rfl rfl rfl) (fun hg => (x_fld (o' := 3) Try.underlying46 rfl ty3 rfl rfl rfl)) ?_
  refine RL.gval (wantedF rfl rfl rfl rfl) (fun hg => (x_ld (v := .int .i64 ((x).req)) ty3 (gvr hg) rfl (hb_4.cl.field (i := 3) rfl))) ?_
  refine RL.gval (wantedF rfl rfl rfl rfl) (fun hg => (x_fld (o' := 3) Try.underlying46 rfl ty3 rfl rfl rfl)) ?_
  refine RL.gval (wantedF rfl rfl rfl rfl) (fun hg => (x_ld (v := .int .i64 ((x).req)) ty3 (gvr hg) rfl (hb_9.cl.field (i := 3) rfl))) ?_
  refine RL.gval (wantedF rfl rfl rfl rfl) (fun hg => (x_neI (gvr hg) (gvr hg))) ?_
  refine RL.val (x_or rfl rfl rfl) ?_
  refine RL.val (x_moveB rfl) ?_
  refine RL.gval (wantedF rfl rfl rfl rfl) (fun hg => (x_fld (o' := 4) Try.underlying46 rfl ty9 rfl rfl rfl)) ?_
  refine RL.gval (wantedF rfl rfl rfl rfl) (fun hg => (x_ld (v := .string ((x).key)) ty9 (gvr hg) rfl (hb_4.cl.field (i := 4) rfl))) ?_
  refine RL.gval (wantedF rfl rfl rfl rfl) (fun hg => (x_fld (o' := 4) Try.underlying46 rfl ty9 rfl rfl rfl)) ?_
  refine RL.gval (wantedF rfl rfl rfl rfl) (fun hg => (x_ld (v := .string ((x).key)) ty9 (gvr hg) rfl (hb_9.cl.field (i := 4) rfl))) ?_
  refine RL.gval (wantedF rfl rfl rfl rfl) (fun hg => (x_neS (gvr hg) (gvr hg))) ?_
  refine RL.val (x_or rfl rfl rfl) ?_
  refine RL.val (x_moveB rfl) ?_
  refine RL.gval (wantedF rfl rfl rfl rfl) (fun hg => (x_fld (o' := 8) Try.underlying46 rfl ty3 rfl rfl rfl)) ?_
  refine RL.gval (wantedF rfl rfl rfl rfl) (fun hg => (x_ld (v := .int .i64 (0)) ty3 (gvr hg) rfl (hb_4.cl.field (i := 8) rfl))) ?_
  refine RL.gval (wantedF rfl rfl rfl rfl) (fun hg => (x_fld (o' := 8) Try.underlying46 rfl ty3 rfl rfl rfl)) ?_
  refine RL.gval (wantedF rfl rfl rfl rfl) (fun hg => (x_ld (v := .int .i64 (0)) ty3 (gvr hg) rfl (hb_9.cl.field (i := 8) rfl))) ?_
  refine RL.gval (wantedF rfl rfl rfl rfl) (fun hg => (litF (x_neI (gvr hg) (gvr hg)) (by decide))) ?_
  refine RL.val (x_or rfl rfl rfl) ?_
  refine RL.val (x_moveB rfl) ?_
  refine RL.gval (wantedF rfl rfl rfl rfl) (fun hg => (x_fld (o' := 9) Try.underlying46 rfl ty3 rfl rfl rfl)) ?_
  refine RL.gval (wantedF rfl rfl rfl rfl) (fun hg => (x_ld (v := .int .i64 ((x).part)) ty3 (gvr hg) rfl (hb_4.cl.field (i := 9) rfl))) ?_
  refine RL.gval (wantedF rfl rfl rfl rfl) (fun hg => (x_fld (o' := 9) Try.underlying46 rfl ty3 rfl rfl rfl)) ?_
  refine RL.gval (wantedF rfl rfl rfl rfl) (fun hg => (x_ld (v := .int .i64 ((x).part)) ty3 (gvr hg) rfl (hb_9.cl.field (i := 9) rfl))) ?_
  refine RL.gval (wantedF rfl rfl rfl rfl) (fun hg => (x_neI (gvr hg) (gvr hg))) ?_
  refine RL.val (x_or rfl rfl rfl) ?_
  refine RL.val (x_moveB rfl) ?_
  refine RL.gval (wantedF rfl rfl rfl rfl) (fun hg => (x_fld (o' := 10) Try.underlying46 rfl ty3 rfl rfl rfl)) ?_
  refine RL.gval (wantedF rfl rfl rfl rfl) (fun hg => (x_ld (v := .int .i64 (0)) ty3 (gvr hg) rfl (hb_4.cl.field (i := 10) rfl))) ?_
  refine RL.gval (wantedF rfl rfl rfl rfl) (fun hg => (x_fld (o' := 10) Try.underlying46 rfl ty3 rfl rfl rfl)) ?_
  refine RL.gval (wantedF rfl rfl rfl rfl) (fun hg => (x_ld (v := .int .i64 (0)) ty3 (gvr hg) rfl (hb_9.cl.field (i := 10) rfl))) ?_
  refine RL.gval (wantedF rfl rfl rfl rfl) (fun hg => (litF (x_neI (gvr hg) (gvr hg)) (by decide))) ?_
  refine RL.val (litF (x_or rfl rfl rfl) (by simp)) ?_
  refine RL.nil ?_
  refine Run.condF rfl ?_
  refine Run.skip ?_
  refine Run.seq ?_
  refine Run.region ?_
  refine RL.val (x_fld (o' := 5) Try.underlying46 rfl ty39 rfl rfl rfl) ?_
  refine RL.val (x_lds (cs := #[.slice (none) (0) (0), .slice (none) (0) (0), .slice (none) (0) (0)]) ty39 rfl rfl (hb_4.cl.drop 5 3)) ?_
  refine RL.val (x_fld (o' := 5) Try.underlying46 rfl ty39 rfl rfl rfl) ?_
  refine RL.val (x_lds (cs := #[.slice (none) (0) (0), .slice (none) (0) (0), .slice (none) (0) (0)]) ty39 rfl rfl (hb_9.cl.drop 5 3)) ?_
  refine RL.st rfl <| St1.call (vals := [.agg #[.slice (none) (0) (0), .slice (none) (0) (0), .slice (none) (0) (0)], .agg #[.slice (none) (0) (0), .slice (none) (0) (0), .slice (none) (0) (0)]]) en70 rfl (sameCart_ _) ?_
  rintro _ w_12 ⟨rfl, K_13⟩
  replace hb_4 := hb_4.ext K_13
  replace hb_9 := hb_9.ext K_13
  replace K0 := K0.ext K_13
  refine RL.val (x_moveB rfl) ?_
  refine RL.gst (wantedT1 rfl rfl rfl rfl) <| St1.val (x_fld (o' := 11) Try.underlying46 rfl ty42 rfl rfl rfl) ?_
  refine RL.gst (wantedT1 rfl rfl rfl rfl) <| St1.val (x_lds (cs := #[.int .i64 (0), .int .i64 (0), .int .i64 (0), .slice (none) (0) (0)]) ty42 rfl rfl (hb_4.cl.drop 11 4)) ?_
  refine RL.gst (wantedT1 rfl rfl rfl rfl) <| St1.val (x_fld (o' := 11) Try.underlying46 rfl ty42 rfl rfl rfl) ?_
  refine RL.gst (wantedT1 rfl rfl rfl rfl) <| St1.val (x_lds (cs := #[.int .i64 (0), .int .i64 (0), .int .i64 (0), .slice (none) (0) (0)]) ty42 rfl rfl (hb_9.cl.drop 11 4)) ?_
  refine RL.gst (wantedT1 rfl rfl rfl rfl) <| St1.call (vals := [.agg #[.int .i64 (0), .int .i64 (0), .int .i64 (0), .slice (none) (0) (0)], .agg #[.int .i64 (0), .int .i64 (0), .int .i64 (0), .slice (none) (0) (0)]]) en71 rfl (sameRing_ _) ?_
  rintro _ w_14 ⟨rfl, K_15⟩
  replace hb_4 := hb_4.ext K_15
  replace hb_9 := hb_9.ext K_15
  replace K0 := K0.ext K_15
  refine RL.val (x_andT rfl rfl rfl) ?_
  refine RL.val (x_moveB rfl) ?_
  refine RL.gst (wantedT1 rfl rfl rfl rfl) <| St1.val (x_fld (o' := 15) Try.underlying46 rfl ty43 rfl rfl rfl) ?_
  refine RL.gst (wantedT1 rfl rfl rfl rfl) <| St1.val (x_ld (v := .slice (none) (0) (0)) ty43 rfl rfl (hb_4.cl.field (i := 15) rfl)) ?_
  refine RL.gst (wantedT1 rfl rfl rfl rfl) <| St1.val (x_fld (o' := 15) Try.underlying46 rfl ty43 rfl rfl rfl) ?_
  refine RL.gst (wantedT1 rfl rfl rfl rfl) <| St1.val (x_ld (v := .slice (none) (0) (0)) ty43 rfl rfl (hb_9.cl.field (i := 15) rfl)) ?_
  refine RL.gst (wantedT1 rfl rfl rfl rfl) <| St1.call (vals := [.slice (none) (0) (0), .slice (none) (0) (0)]) en72 rfl (equalNil_Peer _) ?_
  rintro _ w_16 ⟨rfl, K_17⟩
  replace hb_4 := hb_4.ext K_17
  replace hb_9 := hb_9.ext K_17
  replace K0 := K0.ext K_17
  refine RL.val (x_andT rfl rfl rfl) ?_
  refine RL.val (x_moveB rfl) ?_
  refine RL.gst (wantedT1 rfl rfl rfl rfl) <| St1.val (x_fld (o' := 16) Try.underlying46 rfl ty44 rfl rfl rfl) ?_
  refine RL.gst (wantedT1 rfl rfl rfl rfl) <| St1.val (x_ld (v := .slice (none) (0) (0)) ty44 rfl rfl (hb_4.cl.field (i := 16) rfl)) ?_
  refine RL.gst (wantedT1 rfl rfl rfl rfl) <| St1.val (x_fld (o' := 16) Try.underlying46 rfl ty44 rfl rfl rfl) ?_
  refine RL.gst (wantedT1 rfl rfl rfl rfl) <| St1.val (x_ld (v := .slice (none) (0) (0)) ty44 rfl rfl (hb_9.cl.field (i := 16) rfl)) ?_
  refine RL.gst (wantedT1 rfl rfl rfl rfl) <| St1.call (vals := [.slice (none) (0) (0), .slice (none) (0) (0)]) en73 rfl (equalNil_Sum _) ?_
  rintro _ w_18 ⟨rfl, K_19⟩
  replace hb_4 := hb_4.ext K_19
  replace hb_9 := hb_9.ext K_19
  replace K0 := K0.ext K_19
  refine RL.val (x_andT rfl rfl rfl) ?_
  refine RL.val (x_assignB rfl) ?_
  refine RL.nil ?_
  refine Run.ret1 (v := .bool (true)) Try.func60 rfl rfl ?_
  exact ⟨_, rfl, rfl, K0⟩

set_option maxRecDepth 100000 in
set_option maxHeartbeats 4000000 in
theorem equalFunc_msg (a : Option Addr) (xs : List HMsg) (c : Nat) (d : Option Addr) (e : Nat) (gf : FuncId) (caps : List Value) (hen : Enters Try.prog gf) (w : World) (hs : SlOf w a xs) (ht : SlOf w d xs) (hl : xs.length ≤ 4294967295) (hq : ∀ x ∈ xs, ∀ w', Ext w w' → Calls Try.prog gf (Enc.val x :: Enc.val x :: caps).toArray w' (Ret fun v w'' => v = .bool true ∧ Ext w' w'')) :
    Calls Try.prog 59 #[.slice (a) (xs.length) (c), .slice (d) (xs.length) (e), .func (.func gf) #[] caps.toArray] w (Ret (fun v w' => v = .bool true ∧ Ext w w')) := by
  refine calls_run (n := 32) Try.func59 rfl rfl rfl ?_
  refine Run.seq ?_
  refine Run.region ?_
  refine RL.val (x_assignB rfl) ?_
  refine RL.nil ?_
  refine Run.seq ?_
  refine Run.seq ?_
  refine Run.region ?_
  refine RL.val (x_moveSl rfl) ?_
  refine RL.val (x_lenSl Try.underlying31 rfl) ?_
  refine RL.val (x_moveSl rfl) ?_
  refine RL.val (x_lenSl Try.underlying31 rfl) ?_
  refine RL.val (litF (x_neI rfl rfl) (by simp)) ?_
  refine RL.nil ?_
  refine Run.condF rfl ?_
  refine Run.skip ?_
  refine Run.seq ?_
  refine Run.seq ?_
  refine Run.region ?_
  refine RL.val (x_moveSl rfl) ?_
  refine RL.val (x_lenSl Try.underlying31 rfl) ?_
  refine RL.val (x_moveI rfl) ?_
  refine RL.nil ?_
  refine Run.block ?_
  refine Run.loop (ι := Nat) (fun i ρ' w' => Holds ρ' [(1, .slice (d) (xs.length) (e)), (2, .func (.func gf) #[] caps.toArray), (15, .slice (a) (xs.length) (c)), (16, .int .i64 (((xs.length : Nat) : Int))), (17, .int .i64 (((i : Nat) : Int)))] ∧ Ext w w' ∧ (i ≤ xs.length)) (fun i => xs.length - i) 0 ?_ ?_
  · refine ⟨⟨rfl, rfl, rfl, rfl, rfl, trivial⟩, (Keeps.refl _ w), ?_⟩
    · omega
  rintro i ρ_3 w_1 ⟨hH_2, K0, hi⟩ ih1
  obtain ⟨ρ₀, rfl⟩ := hH_2.ex
  clear hH_2
  refine Run.seq ?_
  refine Run.region ?_
  refine RL.val (x_ltI rfl rfl) ?_
  refine RL.nil ?_
  refine Run.seq ?_
  refine Run.cond rfl (fun hc18 => ?_) (fun hc18 => ?_)
  · try simp only [br] at hc18
    refine Run.skip ?_
    refine Run.seq ?_
    refine Run.block ?_
    refine Run.seq ?_
    refine Run.region ?_
    refine RL.val (x_moveI rfl) ?_
    obtain ⟨b_4, o_5, x, hx, ha_6, hc_7⟩ := hs.el (i := i) (by first | omega | (simp only [List.length_set]; omega))
    have hc_7_lt := hc_7.lt
    replace hc_7 := hc_7.ext K0
    refine RL.val (x_idxN Try.underlying31 ty46 rfl rfl ha_6 (by first | omega | (simp only [List.length_set]; omega))) ?_
    refine RL.val (x_ldV (v := .agg #[.int .i64 ((x).kind), .int .i64 ((x).frm), .int .i64 ((x).to), .int .i64 ((x).req), .string ((x).key), .slice (none) (0) (0), .slice (none) (0) (0), .slice (none) (0) (0), .int .i64 (0), .int .i64 ((x).part), .int .i64 (0), .int .i64 (0), .int .i64 (0), .int .i64 (0), .slice (none) (0) (0), .slice (none) (0) (0), .slice (none) (0) (0)]) (y := x) ty46 rfl hc_7 rfl) ?_
    refine RL.st rfl <| St1.alloc ty46 ?_
    intro b_10 w_11 hl_14 hb_13 K_12
    replace hb_13 : Blk w_11 b_10 [.int .i64 (0), .int .i64 (0), .int .i64 (0), .int .i64 (0), .string (⟨#[]⟩), .slice (none) (0) (0), .slice (none) (0) (0), .slice (none) (0) (0), .int .i64 (0), .int .i64 (0), .int .i64 (0), .int .i64 (0), .int .i64 (0), .int .i64 (0), .slice (none) (0) (0), .slice (none) (0) (0), .slice (none) (0) (0)] 46 := hb_13
    have ne_15 : b_4 < b_10 := Nat.lt_of_lt_of_le hc_7.lt hl_14
    have : w.heap.size ≤ b_10 := Nat.le_trans K0.size hl_14
    clear hl_14
    replace hc_7 := hc_7.ext K_12
    replace K0 := K0.ext K_12
    refine RL.val (x_assignI rfl) ?_
    refine RL.st rfl <| St1.store (v := .agg #[.int .i64 ((x).kind), .int .i64 ((x).frm), .int .i64 ((x).to), .int .i64 ((x).req), .string ((x).key), .slice (none) (0) (0), .slice (none) (0) (0), .slice (none) (0) (0), .int .i64 (0), .int .i64 ((x).part), .int .i64 (0), .int .i64 (0), .int .i64 (0), .int .i64 (0), .slice (none) (0) (0), .slice (none) (0) (0), .slice (none) (0) (0)]) ty46 rfl rfl rfl (by simp [Value.cells, Value.oneCell']) hb_13 (by simp) ?_
    intro w_16 hb_13_ K_17
    have hb_13' : Blk w_16 b_10 [.int .i64 ((x).kind), .int .i64 ((x).frm), .int .i64 ((x).to), .int .i64 ((x).req), .string ((x).key), .slice (none) (0) (0), .slice (none) (0) (0), .slice (none) (0) (0), .int .i64 (0), .int .i64 ((x).part), .int .i64 (0), .int .i64 (0), .int .i64 (0), .int .i64 (0), .slice (none) (0) (0), .slice (none) (0) (0), .slice (none) (0) (0)] 46 := hb_13_
    clear hb_13_
    replace hc_7 := hc_7.keep K_17 (by simp only [one]; omega)
    replace K0 := K0.new K_17 (fun x hx => by simp only [one] at hx; omega)
    replace hb_13 := hb_13'
    clear hb_13'
    refine RL.nil ?_
    refine Run.seq ?_
    refine Run.region ?_
    refine RL.val (x_moveSl rfl) ?_
    refine RL.val (x_moveI rfl) ?_
    obtain ⟨b_18, o_19, x_22, hx_23, ha_20, hc_21⟩ := ht.el (i := i) (by first | omega | (simp only [List.length_set]; omega))
    have hc_21_lt := hc_21.lt
    replace hc_21 := hc_21.ext K0
    obtain rfl : x = x_22 := Option.some.inj (hx.symm.trans hx_23)
    refine RL.val (x_idxN Try.underlying31 ty46 rfl rfl ha_20 (by first | omega | (simp only [List.length_set]; omega))) ?_
    refine RL.val (x_ldV (v := .agg #[.int .i64 ((x).kind), .int .i64 ((x).frm), .int .i64 ((x).to), .int .i64 ((x).req), .string ((x).key), .slice (none) (0) (0), .slice (none) (0) (0), .slice (none) (0) (0), .int .i64 (0), .int .i64 ((x).part), .int .i64 (0), .int .i64 (0), .int .i64 (0), .int .i64 (0), .slice (none) (0) (0), .slice (none) (0) (0), .slice (none) (0) (0)]) (y := x) ty46 rfl hc_21 rfl) ?_
    refine RL.st rfl <| St1.alloc ty46 ?_
    intro b_24 w_25 hl_28 hb_27 K_26
    replace hb_27 : Blk w_25 b_24 [.int .i64 (0), .int .i64 (0), .int .i64 (0), .int .i64 (0), .string (⟨#[]⟩), .slice (none) (0) (0), .slice (none) (0) (0), .slice (none) (0) (0), .int .i64 (0), .int .i64 (0), .int .i64 (0), .int .i64 (0), .int .i64 (0), .int .i64 (0), .slice (none) (0) (0), .slice (none) (0) (0), .slice (none) (0) (0)] 46 := hb_27
    have ne_29 : b_10 < b_24 := Nat.lt_of_lt_of_le hb_13.lt hl_28
    have ne_30 : b_18 < b_24 := Nat.lt_of_lt_of_le hc_21.lt hl_28
    have : w.heap.size ≤ b_24 := Nat.le_trans K0.size hl_28
    clear hl_28
    replace hb_13 := hb_13.ext K_26
    replace hc_21 := hc_21.ext K_26
    replace K0 := K0.ext K_26
    refine RL.st rfl <| St1.store (v := .agg #[.int .i64 ((x).kind), .int .i64 ((x).frm), .int .i64 ((x).to), .int .i64 ((x).req), .string ((x).key), .slice (none) (0) (0), .slice (none) (0) (0), .slice (none) (0) (0), .int .i64 (0), .int .i64 ((x).part), .int .i64 (0), .int .i64 (0), .int .i64 (0), .int .i64 (0), .slice (none) (0) (0), .slice (none) (0) (0), .slice (none) (0) (0)]) ty46 rfl rfl rfl (by simp [Value.cells, Value.oneCell']) hb_27 (by simp) ?_
    intro w_31 hb_27_ K_32
    have hb_27' : Blk w_31 b_24 [.int .i64 ((x).kind), .int .i64 ((x).frm), .int .i64 ((x).to), .int .i64 ((x).req), .string ((x).key), .slice (none) (0) (0), .slice (none) (0) (0), .slice (none) (0) (0), .int .i64 (0), .int .i64 ((x).part), .int .i64 (0), .int .i64 (0), .int .i64 (0), .int .i64 (0), .slice (none) (0) (0), .slice (none) (0) (0), .slice (none) (0) (0)] 46 := hb_27_
    clear hb_27_
    replace hb_13 := hb_13.keep K_32 (by simp only [one]; omega)
    replace hc_21 := hc_21.keep K_32 (by simp only [one]; omega)
    replace K0 := K0.new K_32 (fun x hx => by simp only [one] at hx; omega)
    replace hb_27 := hb_27'
    clear hb_27'
    refine RL.nil ?_
    refine Run.seq ?_
    refine Run.region ?_
    refine RL.val (x_moveF rfl) ?_
    refine RL.val (x_lds (cs := #[.int .i64 ((x).kind), .int .i64 ((x).frm), .int .i64 ((x).to), .int .i64 ((x).req), .string ((x).key), .slice (none) (0) (0), .slice (none) (0) (0), .slice (none) (0) (0), .int .i64 (0), .int .i64 ((x).part), .int .i64 (0), .int .i64 (0), .int .i64 (0), .int .i64 (0), .slice (none) (0) (0), .slice (none) (0) (0), .slice (none) (0) (0)]) ty46 rfl rfl (hb_13.cl.drop 0 17)) ?_
    refine RL.val (x_lds (cs := #[.int .i64 ((x).kind), .int .i64 ((x).frm), .int .i64 ((x).to), .int .i64 ((x).req), .string ((x).key), .slice (none) (0) (0), .slice (none) (0) (0), .slice (none) (0) (0), .int .i64 (0), .int .i64 ((x).part), .int .i64 (0), .int .i64 (0), .int .i64 (0), .int .i64 (0), .slice (none) (0) (0), .slice (none) (0) (0), .slice (none) (0) (0)]) ty46 rfl rfl (hb_27.cl.drop 0 17)) ?_
    refine RL.st rfl <| St1.callV (first := []) (vals := .agg #[.int .i64 ((x).kind), .int .i64 ((x).frm), .int .i64 ((x).to), .int .i64 ((x).req), .string ((x).key), .slice (none) (0) (0), .slice (none) (0) (0), .slice (none) (0) (0), .int .i64 (0), .int .i64 ((x).part), .int .i64 (0), .int .i64 (0), .int .i64 (0), .int .i64 (0), .slice (none) (0) (0), .slice (none) (0) (0), .slice (none) (0) (0)] :: .agg #[.int .i64 ((x).kind), .int .i64 ((x).frm), .int .i64 ((x).to), .int .i64 ((x).req), .string ((x).key), .slice (none) (0) (0), .slice (none) (0) (0), .slice (none) (0) (0), .int .i64 (0), .int .i64 ((x).part), .int .i64 (0), .int .i64 (0), .int .i64 (0), .int .i64 (0), .slice (none) (0) (0), .slice (none) (0) (0), .slice (none) (0) (0)] :: caps) hen rfl rfl (hq x (mem_of_at hx) _ K0) ?_
    rintro _ w_33 ⟨rfl, K_34⟩
    replace hb_13 := hb_13.ext K_34
    replace hb_27 := hb_27.ext K_34
    replace K0 := K0.ext K_34
    refine RL.val (x_not rfl) ?_
    refine RL.nil ?_
    refine Run.condF rfl ?_
    refine Run.skip ?_
    refine Run.inBlock ?_
    refine Run.region ?_
    refine RL.val (litI (c := ((i + 1 : Nat) : Int)) (x_add rfl rfl (by omega) (by omega)) rfl) ?_
    refine RL.val (x_moveI rfl) ?_
    refine RL.nil ?_
    refine ih1 (i + 1) _ _ ?_ (by omega)
    refine ⟨⟨rfl, rfl, rfl, rfl, rfl, trivial⟩, K0, ?_⟩
    · omega
  · try simp only [br] at hc18
    refine Run.exit rfl ?_
    refine Run.seq ?_
    refine Run.region ?_
    refine RL.val (x_assignB rfl) ?_
    refine RL.nil ?_
    refine Run.ret1 (v := .bool (true)) Try.func59 rfl rfl ?_
    exact ⟨_, rfl, rfl, K0⟩

set_option maxRecDepth 100000 in
set_option maxHeartbeats 4000000 in
theorem sameMsgs_ (a : Option Addr) (xs : List HMsg) (c : Nat) (d : Option Addr) (e : Nat) (w : World) (hs : SlOf w a xs) (ht : SlOf w d xs) (hl : xs.length ≤ 4294967295) :
    Calls Try.prog 31 #[.slice (a) (xs.length) (c), .slice (d) (xs.length) (e)] w (Ret (fun v w' => v = .bool true ∧ Ext w w')) := by
  refine calls_run (n := 8) Try.func31 rfl rfl rfl ?_
  refine Run.seq ?_
  refine Run.region ?_
  refine RL.val (x_assignB rfl) ?_
  refine RL.nil ?_
  refine Run.seq ?_
  refine Run.region ?_
  refine RL.val (x_moveSl rfl) ?_
  refine RL.val (x_moveSl rfl) ?_
  refine RL.st rfl <| St1.call (vals := [.slice (a) (xs.length) (c), .slice (d) (xs.length) (e), .func (.func 60) #[] #[]]) en59 rfl (equalFunc_msg _ _ _ _ _ 60 [] en60 _ hs ht (by omega) (fun x _ w' _ => sameMsg_ x w')) ?_
  rintro _ w_1 ⟨rfl, K_2⟩
  have K0 := (K_2 : Ext w _)
  refine RL.val (x_assignB rfl) ?_
  refine RL.nil ?_
  refine Run.ret1 (v := .bool (true)) Try.func31 rfl rfl ?_
  exact ⟨_, rfl, rfl, K0⟩

end Go.Proofs.Ythhhkjmlnjbnjaa
