/-
  Layer 1: readings.
-/
import Derived.Test.YtnphndfbgdkgbaaGreatDoorRows
import Derived.Test.YtnphndfbgdkgbaaGreatDoorXa
namespace Go.Proofs.YtnphndfbgdkgbaaGreatDoor
attribute [local irreducible] St1 RL RA RT RT1 Run
theorem assertT (e : Int) (w : World) : (Instr.typeAssert (.iface 44 (.int .i64 e)) 20 44 true).run Tryz.prog w = .ok (.tuple #[.int .i64 e, .bool true]) w := by
  simp [Instr.typeAssert, run_underlying Tryz.underlying44]
theorem assertN (w : World) : (Instr.typeAssert .nilIface 20 44 true).run Tryz.prog w = .ok (.tuple #[.int .i64 0, .bool false]) w := by
  have hz : (zeroValue 44).run Tryz.prog w = .ok (.int .i64 0) w := (ty_of (P := Tryz.prog) (size := 1) (bytes := 8) (agg := false) (by kernel_rfl) (by kernel_rfl)).run_zero
  simp [Instr.typeAssert, run_underlying Tryz.underlying44, hz]
set_option maxRecDepth 100000 in
set_option maxHeartbeats 4000000 in
theorem catch_panicking (b : Nat) (x e : Int) (older : List PanicEntry) (w : World) (hc : w.cell? ⟨b, 0, none⟩ = some (.int .i64 x)) (hz : w.frozen? ⟨b, 0, none⟩ = false) :
    CallsD Tryz.prog 282 #[.pointer (some ⟨b, 0, none⟩)] (.panicking ({ v := .iface 44 (.int .i64 e), recovered := false } :: older)) w fun r u' w' =>
      r = .returned (.tuple #[]) ∧ u' = .panicking ({ v := .iface 44 (.int .i64 e), recovered := true } :: older) ∧ w' = w.setCell ⟨b, 0, none⟩ (.int .i64 e) := by
  refine callsD_of_wpS Tryz.func282 rfl fun c₀ cs hu => ?_
  apply wpS_seq
  apply wpS_region
  simp [wpOpsS, go_sem, recoverD, hu, Tryz.ntmps282, Exit.thenS]
  apply wpS_seq
  apply wpS_region
  simp [wpOpsS, go_sem, recoverD, hu, Tryz.ntmps282, Exit.thenS, assertT]
  apply wpS_seq
  apply wpS_seq
  apply wpS_region
  simp [wpOpsS, go_sem, recoverD, hu, Tryz.ntmps282, Exit.thenS, Region.wanted, yielded]
  refine wpS_cond (t := false) (by simp [Act.eval, Array.replicate]) ?_
  refine wpS_of_wp (wp_skip ?_)
  simp only [Exit.thenS]
  apply wpS_region
  simp [wpOpsS, go_sem, hc, hz, bodyPostS, results, Tryz.results282]
set_option maxRecDepth 100000 in
set_option maxHeartbeats 4000000 in
theorem catch_idle (b : Nat) (x : Int) (w : World) (hc : w.cell? ⟨b, 0, none⟩ = some (.int .i64 x)) (hz : w.frozen? ⟨b, 0, none⟩ = false) :
    CallsD Tryz.prog 282 #[.pointer (some ⟨b, 0, none⟩)] .returning w fun r u' w' =>
      r = .returned (.tuple #[]) ∧ u' = .returning ∧ w' = w.setCell ⟨b, 0, none⟩ (.int .i64 0) := by
  refine callsD_of_wpS Tryz.func282 rfl fun c₀ cs hu => ?_
  apply wpS_seq
  apply wpS_region
  simp [wpOpsS, go_sem, recoverD, hu, Tryz.ntmps282, Exit.thenS]
  apply wpS_seq
  apply wpS_region
  simp [wpOpsS, go_sem, recoverD, hu, Tryz.ntmps282, Exit.thenS, assertN]
  apply wpS_seq
  apply wpS_seq
  apply wpS_region
  simp [wpOpsS, go_sem, recoverD, hu, Tryz.ntmps282, Exit.thenS, Region.wanted, yielded]
  refine wpS_cond (t := false) (by simp [Act.eval, Array.replicate]) ?_
  refine wpS_of_wp (wp_skip ?_)
  simp only [Exit.thenS]
  apply wpS_region
  simp [wpOpsS, go_sem, hc, hz, bodyPostS, results, Tryz.results282]
  cases c₀
  simp_all
theorem keeps_setCell (w : World) (b o : Nat) (v : Value) : Keeps (one b) w (w.setCell ⟨b, o, none⟩ v) :=
  ⟨rfl, rfl, rfl, by simp [World.setCell], fun k _ hn => by
    simp only [World.setCell, Array.getElem?_modify]
    rw [if_neg (fun e => hn e.symm)]⟩
theorem Blk.cell0 {w : World} {b : Nat} {v : Value} {T : TypeId} (h : Blk w b [v] T) : w.cell? ⟨b, 0, none⟩ = some v := h.cl.head
theorem Blk.thaw0 {w : World} {b : Nat} {c : List Value} {T : TypeId} (h : Blk w b c T) (o : Nat) : w.frozen? ⟨b, o, none⟩ = false := by
  unfold Blk at h
  simp [World.frozen?, h]
theorem Blk.setCell0 {w : World} {b : Nat} {v u : Value} {T : TypeId} (h : Blk w b [v] T) : Blk (w.setCell ⟨b, 0, none⟩ u) b [u] T := by
  unfold Blk at *
  simp [World.setCell, Array.getElem?_modify, h]
set_option maxRecDepth 100000 in
set_option maxHeartbeats 4000000 in
theorem try_ (g : FuncId) (caps : List Value) (w : World) (R : Ending → World → Prop) (Φ : World → Prop) (Ψ : Int → World → Prop) (he : Enters Tryz.prog g)
    (hc : Calls Tryz.prog g caps.toArray (w.alloc (.cells #[.int .i64 0] 44)) (Two (fun _ w' => Φ w') (fun ch w' => ∃ e, ch = raisedBy 44 (.int .i64 e) ∧ Ψ e w')))
    (hk : ∀ w', Φ w' → Blk w' w.heap.size [.int .i64 0] 44) (hk2 : ∀ e w', Ψ e w' → Blk w' w.heap.size [.int .i64 0] 44)
    (h1 : ∀ w' w2, Φ w' → Keeps (one w.heap.size) w' w2 → R (.returned (.int .i64 0)) w2)
    (h2 : ∀ e w' w2, Ψ e w' → Keeps (one w.heap.size) w' w2 → R (.returned (.int .i64 e)) w2) :
    Calls Tryz.prog 240 #[.func (.func g) #[] caps.toArray] w R := by
  refine calls_of_wp_defers Tryz.func240 rfl ?_
  have hmf : ∀ (fn : Fn) (first cap : Array Value) (w : World), (Instr.makeFunc fn first cap).run Tryz.prog w = .ok (.func fn first cap) w := fun _ _ _ _ => rfl
  apply wp_seq
  apply wp_region_lit
  simp [wpList, go_sem, Tryz.ntmps240, Exit.then]
  refine .inl ?_
  apply wp_seq
  apply wp_region_lit
  simp [wpList, go_sem, Tryz.ntmps240, Exit.then, hmf]
  refine .inl (.inl ?_)
  apply wp_seq
  apply wp_region_lit
  have he2 : ∀ w, (callFunc g caps.toArray).run Tryz.prog w = .ok (.enter g caps.toArray) w := he caps.toArray
  simp [wpList, go_sem, Tryz.ntmps240, Exit.then, hmf, he2]
  refine .inl (.inl (hc.mono ?_))
  rintro e w' (⟨v, rfl, hΦ⟩ | ⟨ch, rfl, e, rfl, hΨ⟩)
  · have hb := hk w' hΦ
    simp only []
    apply wp_seq
    apply wp_region_lit
    simp [wpList, go_sem, Exit.then, hb.cell0, hb.thaw0 0]
    refine .inl (wp_ret ?_)
    refine leaves_cons (f := 282) (args := #[.pointer (some ⟨w.heap.size, 0, none⟩)]) (by simp) (by simp [go_sem]) ?_
    refine (catch_idle w.heap.size 0 _ hb.setCell0.cell0 (hb.setCell0.thaw0 0)).mono ?_
    rintro e' u' w'' ⟨rfl, rfl, rfl⟩
    simp [Leaves, settle, results, Tryz.results240, go_sem, hb.setCell0.setCell0.cell0]
    exact h1 w' _ hΦ ((keeps_setCell ..).trans (keeps_setCell ..) fun _ _ h => h)
  · have hb := hk2 e w' hΨ
    refine leaves_cons (f := 282) (args := #[.pointer (some ⟨w.heap.size, 0, none⟩)]) (by simp) (by simp [go_sem]) ?_
    refine (catch_panicking w.heap.size 0 e [] w' hb.cell0 (hb.thaw0 0)).mono ?_
    rintro e' u' w'' ⟨rfl, rfl, rfl⟩
    simp [Leaves, settle, results, Tryz.results240, go_sem, hb.setCell0.cell0]
    exact h2 e w' _ hΨ (keeps_setCell ..)

/-! ### a number at the beginning of bytes -/
def numL (i n : Nat) : List UInt8 → Except Int (Nat × Nat)
  | [] => .error 2
  | x :: r => if i = 8 ∧ 128 ≤ x.toNat then .error 5 else if x.toNat < 128 then (if 0 < i ∧ x.toNat = 0 then .error 10 else .ok (n + x.toNat % 128 * 2 ^ (7 * i), i + 1)) else numL (i + 1) (n + x.toNat % 128 * 2 ^ (7 * i)) r
theorem cons_at {bs : List UInt8} {k : Nat} {x : UInt8} (h : bs[k]? = some x) : bs.drop k = x :: bs.drop (k + 1) := by
  obtain ⟨hi, rfl⟩ := List.getElem?_eq_some_iff.1 h; exact List.drop_eq_getElem_cons hi
section
variable {bs : List UInt8} {k i n : Nat} {x : UInt8}
theorem numL_end (h : bs.length ≤ k) : numL i n (bs.drop k) = .error 2 := by rw [List.drop_eq_nil_of_le h, numL]
theorem numL_range (h : bs[k]? = some x) (h1 : i = 8) (h2 : 128 ≤ x.toNat) : numL i n (bs.drop k) = .error 5 := by rw [cons_at h, numL, if_pos ⟨h1, h2⟩]
theorem numL_form (h : bs[k]? = some x) (h1 : 0 < i) (h2 : x.toNat = 0) : numL i n (bs.drop k) = .error 10 := by rw [cons_at h, numL, if_neg (by omega), if_pos (by omega), if_pos ⟨h1, h2⟩]
theorem numL_ok (h : bs[k]? = some x) (h1 : x.toNat < 128) (h2 : ¬ (0 < i ∧ x.toNat = 0)) : numL i n (bs.drop k) = .ok (n + x.toNat % 128 * 2 ^ (7 * i), i + 1) := by rw [cons_at h, numL, if_neg (by omega), if_pos h1, if_neg h2]
theorem numL_more (h : bs[k]? = some x) (h1 : ¬ (i = 8 ∧ 128 ≤ x.toNat)) (h2 : ¬ x.toNat < 128) : numL i n (bs.drop k) = numL (i + 1) (n + x.toNat % 128 * 2 ^ (7 * i)) (bs.drop (k + 1)) := by rw [cons_at h, numL, if_neg h1, if_neg h2]
end
theorem pow7_le {i : Nat} (h : i ≤ 8) : 2 ^ (7 * i) ≤ 72057594037927936 := Nat.le_trans (Nat.pow_le_pow_right (by decide) (show 7 * i ≤ 56 by omega)) (by decide)
theorem pow7_step (i : Nat) : 2 ^ (7 * (i + 1)) = 128 * 2 ^ (7 * i) := by rw [Nat.mul_add, Nat.pow_add, Nat.mul_comm]
theorem dig7_le (x i : Nat) : x % 128 * 2 ^ (7 * i) ≤ 127 * 2 ^ (7 * i) := Nat.mul_le_mul_right _ (by omega)
theorem numL_bnd : ∀ (bs : List UInt8) (i n : Nat) {v k : Nat}, n < 2 ^ (7 * i) → i ≤ 8 → numL i n bs = .ok (v, k) → v < 9223372036854775808 ∧ i < k ∧ k ≤ i + bs.length
  | [], i, n, v, k, _, _, h => by rw [numL] at h; cases h
  | x :: r, i, n, v, k, hn, hi, h => by
    have h1 := pow7_step i
    have h2 := dig7_le x.toNat i
    have h3 := pow7_le hi
    rw [numL] at h
    by_cases c1 : i = 8 ∧ 128 ≤ x.toNat
    · rw [if_pos c1] at h; cases h
    rw [if_neg c1] at h
    by_cases c2 : x.toNat < 128
    · rw [if_pos c2] at h
      by_cases c3 : 0 < i ∧ x.toNat = 0
      · rw [if_pos c3] at h; cases h
      · rw [if_neg c3] at h
        simp only [Except.ok.injEq, Prod.mk.injEq] at h
        simp only [List.length_cons]
        omega
    · rw [if_neg c2] at h
      have := numL_bnd r (i + 1) _ (by omega) (by omega) h
      simp only [List.length_cons]
      omega
theorem numL_0 {bs : List UInt8} {v k : Nat} (h : numL 0 0 bs = .ok (v, k)) : v < 9223372036854775808 ∧ 0 < k ∧ k ≤ bs.length := by have := numL_bnd bs 0 0 (by decide) (by decide) h; omega
theorem numL_err : ∀ (bs : List UInt8) (i n : Nat) {e : Int}, numL i n bs = .error e → e ≠ 0
  | [], i, n, e, h => by rw [numL] at h; cases h; decide
  | x :: r, i, n, e, h => by
    rw [numL] at h
    split at h
    · cases h; decide
    · split at h
      · split at h
        · cases h; decide
        · cases h
      · exact numL_err r _ _ h
/-! ### four bytes as a number -/
def leL : List UInt8 → Nat
  | [] => 0
  | x :: r => x.toNat + 256 * leL r
theorem leL_snoc : ∀ (a : List UInt8) (x : UInt8), leL (a ++ [x]) = leL a + x.toNat * 2 ^ (8 * a.length)
  | [], x => by simp [leL]
  | y :: a, x => by
    have := leL_snoc a x
    rw [List.cons_append, leL, this, leL, List.length_cons, Nat.mul_add 8, Nat.pow_add, Nat.mul_add, ← Nat.add_assoc]
    congr 1
    rw [show (2 : Nat) ^ (8 * 1) = 256 from rfl, Nat.mul_comm (2 ^ (8 * a.length)) 256, Nat.mul_left_comm]
theorem leL_lt : ∀ (a : List UInt8), leL a < 2 ^ (8 * a.length)
  | [] => by simp [leL]
  | y :: a => by
    have := leL_lt a
    have h2 := y.toNat_lt
    rw [leL, List.length_cons, Nat.mul_add 8, Nat.pow_add, show (2 : Nat) ^ (8 * 1) = 256 from rfl]
    omega
theorem leL_at {F : List UInt8} {i : Nat} {x : UInt8} (h : F[i]? = some x) : leL (F.take (i + 1)) = leL (F.take i) + x.toNat * 2 ^ (8 * i) := by
  obtain ⟨hi, rfl⟩ := List.getElem?_eq_some_iff.1 h
  rw [List.take_succ_eq_append_getElem hi, leL_snoc, List.length_take, Nat.min_eq_left (by omega)]
theorem leL_at_lt {F : List UInt8} {i : Nat} (h : i ≤ F.length) : leL (F.take i) < 2 ^ (8 * i) := by have := leL_lt (F.take i); rwa [List.length_take, Nat.min_eq_left h] at this
theorem pow8_le {i : Nat} (h : i ≤ 3) : 2 ^ (8 * i) ≤ 16777216 := Nat.le_trans (Nat.pow_le_pow_right (by decide) (show 8 * i ≤ 24 by omega)) (by decide)
theorem byte8_le (x : UInt8) (i : Nat) : x.toNat * 2 ^ (8 * i) ≤ 255 * 2 ^ (8 * i) := Nat.mul_le_mul_right _ (by have := x.toNat_lt; omega)
/-! ### the first frame -/
def unfR (b : List UInt8) : Except Int (List UInt8 × List UInt8) := match numL 0 0 b with
  | .error e => .error e
  | .ok (n, k) => if 65536 < n then .error 4 else if b.length - k < n + 4 then .error 2 else if leL ((b.drop (k + n)).take 4) ≠ crcS ((b.drop k).take n) then .error 11 else .ok ((b.drop k).take n, b.drop (k + n + 4))
section
variable {b : List UInt8} {n k : Nat} {e : Int}
theorem unfR_num (h : numL 0 0 b = .error e) : unfR b = .error e := by rw [unfR, h]
theorem unfR_long (h : numL 0 0 b = .ok (n, k)) (h1 : 65536 < n) : unfR b = .error 4 := by rw [unfR, h]; exact if_pos h1
theorem unfR_short (h : numL 0 0 b = .ok (n, k)) (h1 : ¬ 65536 < n) (h2 : b.length - k < n + 4) : unfR b = .error 2 := by rw [unfR, h]; exact (if_neg h1).trans (if_pos h2)
theorem unfR_sum (h : numL 0 0 b = .ok (n, k)) (h1 : ¬ 65536 < n) (h2 : ¬ b.length - k < n + 4) (h3 : leL ((b.drop (k + n)).take 4) ≠ crcS ((b.drop k).take n)) : unfR b = .error 11 := by rw [unfR, h]; exact (if_neg h1).trans ((if_neg h2).trans (if_pos h3))
theorem unfR_ok (h : numL 0 0 b = .ok (n, k)) (h1 : ¬ 65536 < n) (h2 : ¬ b.length - k < n + 4) (h3 : leL ((b.drop (k + n)).take 4) = crcS ((b.drop k).take n)) : unfR b = .ok ((b.drop k).take n, b.drop (k + n + 4)) := by rw [unfR, h]; exact (if_neg h1).trans ((if_neg h2).trans (if_neg (by simpa using h3)))
theorem unfR_err (h : unfR b = .error e) : e ≠ 0 := by
  rw [unfR] at h
  split at h
  · rename_i h2; cases h; exact numL_err _ _ _ h2
  · split at h
    · cases h; decide
    · split at h
      · cases h; decide
      · split at h
        · cases h; decide
        · cases h
theorem unfR_len {P R : List UInt8} (h : unfR b = .ok (P, R)) : R.length + P.length + 5 ≤ b.length ∧ P.length ≤ 65536 := by
  rw [unfR] at h
  split at h
  · cases h
  · rename_i n k h2
    have h3 := numL_0 h2
    split at h
    · cases h
    · split at h
      · cases h
      · split at h
        · cases h
        · simp only [Except.ok.injEq, Prod.mk.injEq] at h
          obtain ⟨rfl, rfl⟩ := h
          simp only [List.length_drop, List.length_take]
          omega
end
theorem take_part (bs : List UInt8) (p n : Nat) : (bs.take (p + n)).drop p = (bs.drop p).take n := by rw [List.drop_take, Nat.add_sub_cancel_left]
attribute [local irreducible] numL leL unfR crcN crcL crcS crcB

theorem ty3 : Ty Tryz.prog 3 1 8 (.int .i64 (0)) false := ty_of (by kernel_rfl) (by kernel_rfl)
theorem ty4 : Ty Tryz.prog 4 1 1 (.bool (false)) false := ty_of (by kernel_rfl) (by kernel_rfl)
theorem ty74 : Ty Tryz.prog 74 1 24 (.slice (none) (0) (0)) false := ty_of (by kernel_rfl) (by kernel_rfl)
theorem en189 : Enters Tryz.prog 189 := enters_of Tryz.func189 rfl (by kernel_rfl)
theorem en195 : Enters Tryz.prog 195 := enters_of Tryz.func195 rfl (by kernel_rfl)

set_option maxRecDepth 100000 in
set_option maxHeartbeats 4000000 in
theorem cut_ (e : Int) (w : World) :
    Calls Tryz.prog 189 #[.int .i64 (e)] w (Two (fun _ _ => False) (fun ch w' => ch = raisedBy 44 (.int .i64 e) ∧ w' = w)) := by
  refine calls_run (n := 4) Tryz.func189 rfl rfl rfl ?_
  refine Run.region ?_
  refine RL.val (x_moveI rfl) ?_
  refine RL.val (x_mkIfaceI (v := .int .i64 (e)) Tryz.underlying44 rfl) ?_
  refine RL.st rfl <| St1.panic (t := 44) (v := .int .i64 (e)) rfl Tryz.func189 ?_
  exact .inr ⟨_, rfl, rfl, rfl⟩

theorem cutD (e : Int) (w : World) : Calls Tryz.prog 189 #[.int .i64 e] w (fun r w' => ∃ ch, r = .panicked ch ∧ (ch = raisedBy 44 (.int .i64 e) ∧ w' = w)) := (cut_ e w).mono fun r w' h => h.elim (fun ⟨_, _, h⟩ => h.elim) id

set_option maxRecDepth 100000 in
set_option maxHeartbeats 4000000 in
theorem rdMadeNil (w : World) :
    Calls Tryz.prog 195 #[.pointer none] w (Ret (fun v w' => v = .bool false ∧ Ext w w')) := by
  refine calls_run (n := 11) Tryz.func195 rfl rfl rfl ?_
  refine Run.seq ?_
  refine Run.region ?_
  refine RL.val (x_assignB rfl) ?_
  refine RL.nil ?_
  refine Run.seq ?_
  refine Run.region ?_
  refine RL.val (x_moveP rfl) ?_
  refine RL.val (litF (x_ptrNotNil Tryz.underlying198 rfl rfl) rfl) ?_
  refine RL.val (x_moveB rfl) ?_
  refine RL.guardF (wantedT0 rfl rfl rfl rfl) ?_
  refine RL.guardF (wantedT0 rfl rfl rfl rfl) ?_
  refine RL.guardF (wantedT0 rfl rfl rfl rfl) ?_
  refine RL.guardF (wantedT0 rfl rfl rfl rfl) ?_
  refine RL.val (x_and (b := false) (e := false) rfl rfl rfl) ?_
  refine RL.val (x_assignB rfl) ?_
  refine RL.nil ?_
  refine Run.ret1 (v := .bool (false)) Tryz.func195 rfl rfl ?_
  exact ⟨_, rfl, rfl, (Keeps.refl _ w)⟩

set_option maxRecDepth 100000 in
set_option maxHeartbeats 4000000 in
theorem rdMade_ (b : Nat) (a : Option Addr) (c : Nat) (bs : List UInt8) (p : Nat) (w : World) (hb : Blk w b [.slice a bs.length c, .int .i64 ((p : Nat) : Int), .bool true] 247) (ho : OwnSl w 5 a c bs) (hab : ¬ own a b) (hp : p ≤ bs.length) (hl : bs.length ≤ 1073741824) :
    Calls Tryz.prog 195 #[.pointer (some ⟨b, 0, none⟩)] w (Ret (fun v w' => v = .bool true ∧ Ext w w')) := by
  refine calls_run (n := 11) Tryz.func195 rfl rfl rfl ?_
  refine Run.seq ?_
  refine Run.region ?_
  refine RL.val (x_assignB rfl) ?_
  refine RL.nil ?_
  refine Run.seq ?_
  refine Run.region ?_
  refine RL.val (x_moveP rfl) ?_
  refine RL.val (litT (x_ptrNotNil Tryz.underlying198 rfl rfl) rfl) ?_
  refine RL.val (x_moveB rfl) ?_
  refine RL.gst (wantedT1 rfl rfl rfl rfl) <| St1.val (x_moveP rfl) ?_
  refine RL.gst (wantedT1 rfl rfl rfl rfl) <| St1.val (x_nilCheck rfl) ?_
  refine RL.gst (wantedT1 rfl rfl rfl rfl) <| St1.val (x_fld (o' := 2) Tryz.underlying247 rfl ty4 rfl rfl rfl) ?_
  refine RL.gst (wantedT1 rfl rfl rfl rfl) <| St1.val (x_ld (v := .bool (true)) ty4 rfl rfl (hb.cl.field (i := 2) rfl)) ?_
  refine RL.val (x_andT rfl rfl rfl) ?_
  refine RL.val (x_assignB rfl) ?_
  refine RL.nil ?_
  refine Run.ret1 (v := .bool (true)) Tryz.func195 rfl rfl ?_
  exact ⟨_, rfl, rfl, (Keeps.refl _ w)⟩

set_option maxRecDepth 100000 in
set_option maxHeartbeats 4000000 in
theorem rdLeft_ (b : Nat) (a : Option Addr) (c : Nat) (bs : List UInt8) (p : Nat) (w : World) (hb : Blk w b [.slice a bs.length c, .int .i64 ((p : Nat) : Int), .bool true] 247) (ho : OwnSl w 5 a c bs) (hab : ¬ own a b) (hp : p ≤ bs.length) (hl : bs.length ≤ 1073741824) :
    Calls Tryz.prog 141 #[.pointer (some ⟨b, 0, none⟩)] w (Ret (fun v w' => v = .int .i64 ((bs.length - p : Nat) : Int) ∧ Ext w w')) := by
  refine calls_run (n := 16) Tryz.func141 rfl rfl rfl ?_
  refine Run.seq ?_
  refine Run.region ?_
  refine RL.val (x_assignI rfl) ?_
  refine RL.nil ?_
  refine Run.seq ?_
  refine Run.seq ?_
  refine Run.region ?_
  refine RL.val (x_moveP rfl) ?_
  refine RL.st rfl <| St1.call (vals := [.pointer (some ⟨b, 0, none⟩)]) en195 rfl (rdMade_ _ _ _ _ p _ hb ho hab (by first | omega | (simp only [lr]; omega)) (by first | omega | (simp only [lr]; omega))) ?_
  rintro _ w_1 ⟨rfl, K_2⟩
  replace ho := ho.ext K_2
  replace hb := hb.ext K_2
  have K0 := (K_2 : Ext w _)
  refine RL.val (x_not (b := true) rfl) ?_
  refine RL.nil ?_
  refine Run.condF rfl ?_
  refine Run.skip ?_
  refine Run.seq ?_
  refine Run.draw' (m := 11) (by kernel_rfl) rfl ?_
  intro w_3 K_4
  replace ho := ho.ext K_4
  replace hb := hb.ext K_4
  replace K0 := K0.ext K_4
  refine RA.take (v := .pointer (some ⟨b, 0, none⟩)) 0 rfl (by kernel_rfl) rfl (by rintro _ rfl; exact (x_moveP rfl)) ?_
  refine RA.take (v := .pointer (some ⟨b, 0, none⟩)) 1 rfl (by kernel_rfl) rfl (by rintro _ rfl; exact (x_nilCheck rfl)) ?_
  refine RA.take (v := .pointer (some ⟨b, 0, none⟩)) 2 rfl (by kernel_rfl) rfl (by rintro _ rfl; exact (x_fld (o' := 0) Tryz.underlying247 rfl ty74 rfl rfl rfl)) ?_
  refine RA.take (v := .slice (a) (bs.length) (c)) 3 rfl (by kernel_rfl) rfl (by rintro _ rfl; exact (x_ld (v := .slice (a) (bs.length) (c)) ty74 rfl rfl (hb.cl.field (i := 0) rfl))) ?_
  refine RA.take (v := .int .i64 (((bs.length : Nat) : Int))) 4 rfl (by kernel_rfl) rfl (by rintro _ rfl; exact (x_lenSl Tryz.underlying74 rfl)) ?_
  refine RA.take (v := .pointer (some ⟨b, 0, none⟩)) 5 rfl (by kernel_rfl) rfl (by rintro _ rfl; exact (x_moveP rfl)) ?_
  refine RA.take (v := .pointer (some ⟨b, 0, none⟩)) 6 rfl (by kernel_rfl) rfl (by rintro _ rfl; exact (x_nilCheck rfl)) ?_
  refine RA.take (v := .pointer (some ⟨b, 1, none⟩)) 7 rfl (by kernel_rfl) rfl (by rintro _ rfl; exact (x_fld (o' := 1) Tryz.underlying247 rfl ty3 rfl rfl rfl)) ?_
  refine RA.take (v := .int .i64 (((p : Nat) : Int))) 8 rfl (by kernel_rfl) rfl (by rintro _ rfl; exact (x_ld (v := .int .i64 (((p : Nat) : Int))) ty3 rfl rfl (hb.cl.field (i := 1) rfl))) ?_
  refine RA.take (v := .int .i64 (((bs.length - p : Nat) : Int))) 9 rfl (by kernel_rfl) rfl (by rintro _ rfl; exact (litI (c := ((bs.length - p : Nat) : Int)) (x_sub rfl rfl (by omega) (by omega)) (by omega))) ?_
  refine RA.take (v := .int .i64 (((bs.length - p : Nat) : Int))) 10 rfl (by kernel_rfl) rfl (by rintro _ rfl; exact (x_assignI rfl)) ?_
  refine RA.done (by kernel_rfl) ?_
  refine Run.ret1 (v := .int .i64 (((bs.length - p : Nat) : Int))) Tryz.func141 rfl rfl ?_
  exact ⟨_, rfl, rfl, K0⟩

set_option maxRecDepth 100000 in
set_option maxHeartbeats 4000000 in
theorem rdTake_ (b : Nat) (a : Option Addr) (c : Nat) (bs : List UInt8) (p : Nat) (n : Nat) (w : World) (hb : Blk w b [.slice a bs.length c, .int .i64 ((p : Nat) : Int), .bool true] 247) (ho : OwnSl w 5 a c bs) (hab : ¬ own a b) (hp : p ≤ bs.length) (hl : bs.length ≤ 1073741824) (hn : p + n ≤ bs.length) :
    Calls Tryz.prog 190 #[.pointer (some ⟨b, 0, none⟩), .int .i64 (((n : Nat) : Int))] w (Ret (fun v w' => ∃ a' c', v = .slice a' ((bs.drop p).take n).length c' ∧ OwnSl w' 5 a' c' ((bs.drop p).take n) ∧ (∀ q, own a' q → w.heap.size ≤ q) ∧ Blk w' b [.slice a bs.length c, .int .i64 ((p + n : Nat) : Int), .bool true] 247 ∧ Keeps (one b) w w')) := by
  have hcap := ho.le_cap
  refine calls_run (n := 31) Tryz.func190 rfl rfl rfl ?_
  refine Run.seq ?_
  refine Run.region ?_
  refine RL.val (x_assignSl rfl) ?_
  refine RL.nil ?_
  refine Run.seq ?_
  refine Run.drawT [] (m := 17) (by kernel_rfl) rfl ?_
  intro w_1 K_2
  replace ho := ho.ext K_2
  replace hb := hb.ext K_2
  have K0 := (K_2 : Ext w _).to (S := (one b))
  refine ⟨fun w' => Blk w' b [.slice (a) (bs.length) (c), .int .i64 (((p : Nat) : Int)), .bool (true)] 247 ∧ True, ?_⟩
  refine RT.takeP (v := .pointer (some ⟨b, 0, none⟩)) 0 rfl (by kernel_rfl) (.inr ⟨hb, trivial⟩) (fun _ => (x_moveP rfl)) ?_
  refine RT.takeP (v := .pointer (some ⟨b, 0, none⟩)) 1 rfl (by kernel_rfl) (.inr ⟨hb, trivial⟩) (fun _ => (x_nilCheck rfl)) ?_
  refine RT.takeP (v := .pointer (some ⟨b, 0, none⟩)) 2 rfl (by kernel_rfl) (.inr ⟨hb, trivial⟩) (fun _ => (x_fld (o' := 0) Tryz.underlying247 rfl ty74 rfl rfl rfl)) ?_
  refine RT.take (v := .slice (a) (bs.length) (c)) 3 rfl (by kernel_rfl) ⟨hb, trivial⟩ (by rintro _ ⟨hb, -⟩; exact (x_ld (v := .slice (a) (bs.length) (c)) ty74 rfl rfl (hb.cl.field (i := 0) rfl))) ?_
  refine RT.takeP (v := .pointer (some ⟨b, 0, none⟩)) 4 rfl (by kernel_rfl) (.inr ⟨hb, trivial⟩) (fun _ => (x_moveP rfl)) ?_
  refine RT.takeP (v := .pointer (some ⟨b, 0, none⟩)) 5 rfl (by kernel_rfl) (.inr ⟨hb, trivial⟩) (fun _ => (x_nilCheck rfl)) ?_
  refine RT.takeP (v := .pointer (some ⟨b, 1, none⟩)) 6 rfl (by kernel_rfl) (.inr ⟨hb, trivial⟩) (fun _ => (x_fld (o' := 1) Tryz.underlying247 rfl ty3 rfl rfl rfl)) ?_
  refine RT.take (v := .int .i64 (((p : Nat) : Int))) 7 rfl (by kernel_rfl) ⟨hb, trivial⟩ (by rintro _ ⟨hb, -⟩; exact (x_ld (v := .int .i64 (((p : Nat) : Int))) ty3 rfl rfl (hb.cl.field (i := 1) rfl))) ?_
  refine RT.takeP (v := .pointer (some ⟨b, 0, none⟩)) 8 rfl (by kernel_rfl) (.inr ⟨hb, trivial⟩) (fun _ => (x_moveP rfl)) ?_
  refine RT.takeP (v := .pointer (some ⟨b, 0, none⟩)) 9 rfl (by kernel_rfl) (.inr ⟨hb, trivial⟩) (fun _ => (x_nilCheck rfl)) ?_
  refine RT.takeP (v := .pointer (some ⟨b, 1, none⟩)) 10 rfl (by kernel_rfl) (.inr ⟨hb, trivial⟩) (fun _ => (x_fld (o' := 1) Tryz.underlying247 rfl ty3 rfl rfl rfl)) ?_
  refine RT.take (v := .int .i64 (((p : Nat) : Int))) 11 rfl (by kernel_rfl) ⟨hb, trivial⟩ (by rintro _ ⟨hb, -⟩; exact (x_ld (v := .int .i64 (((p : Nat) : Int))) ty3 rfl rfl (hb.cl.field (i := 1) rfl))) ?_
  refine RT.takeP (v := .int .i64 (((n : Nat) : Int))) 12 rfl (by kernel_rfl) (.inr ⟨hb, trivial⟩) (fun _ => (x_moveI rfl)) ?_
  refine RT.takeP (v := .int .i64 (((p + n : Nat) : Int))) 13 rfl (by kernel_rfl) (.inr ⟨hb, trivial⟩) (fun _ => (litI (c := ((p + n : Nat) : Int)) (x_add rfl rfl (by omega) (by omega)) rfl)) ?_
  refine RT.takeP (v := .slice (advA a c p 1) (((bs.take (p + n)).drop p).length) (c - p)) 14 rfl (by kernel_rfl) (.inr ⟨hb, trivial⟩) (fun _ => (litSl (m' := ((bs.take (p + n)).drop p).length) (x_sliceFT Tryz.underlying74 ty5 rfl rfl rfl (by omega) (by omega)) (by rw [List.length_drop, List.length_take]; omega))) ?_
  have ho_3 := OwnSl.nil (α := UInt8) w_1 5
  refine RT.st 15 rfl (by kernel_rfl) rfl <| St1.append (xs := ([] : List UInt8)) (ys := (bs.take (p + n)).drop p) Tryz.underlying74 ty5 rfl rfl rfl ho_3 ((ho.sl.take (p + n)).from p c (by rw [List.length_take]; omega)) (by simp only [List.length_nil, List.length_drop, List.length_take]; omega) (by decide) ?_
  intro a_4 c_5 w_6 ho_7 K_8 hm_9 hrm_10
  have pr_11 : ∀ q_, own a_4 q_ → ¬ own a q_ := hm_9.apart (fun q_ h1 _ => own_none q_ h1) ho.own_lt
  have pr_12 : ¬ own a_4 b := hm_9.not (own_none b) hb.lt
  have pg_13 : ∀ q_, own a_4 q_ → q_ < w.heap.size → (one b) q_ := hm_9.inS (fun q_ h1 _ => absurd h1 (own_none q_)) K0.size
  have pw_14 : ∀ q_, own a_4 q_ → w.heap.size ≤ q_ := hm_9.ge (fun q_ h1 => absurd h1 (own_none q_)) K0.size
  replace ho := ho.keepO K_8 (fun q_ h1 h2 => (fun q_ h1 _ => own_none q_ h1) q_ h2 h1)
  replace hb := hb.keep K_8 (own_none b)
  replace K0 := K0.trans K_8 (fun x hlt hx => (fun q_ h1 _ => absurd h1 (own_none q_)) x hx hlt)
  clear hm_9
  clear hrm_10
  refine ⟨.inr ⟨hb, trivial⟩, ?_⟩
  refine RT.takeP (v := .slice (a_4) ((([] : List UInt8) ++ (bs.take (p + n)).drop p).length) (c_5)) 16 rfl (by kernel_rfl) (.inr ⟨hb, trivial⟩) (fun _ => (x_assignSl rfl)) ?_
  refine RT.done (by kernel_rfl) ?_
  refine Run.seq ?_
  refine Run.region ?_
  refine RL.val (x_moveP rfl) ?_
  refine RL.val (x_nilCheck rfl) ?_
  refine RL.val (x_fld (o' := 1) Tryz.underlying247 rfl ty3 rfl rfl rfl) ?_
  refine RL.val (x_ld (v := .int .i64 (((p : Nat) : Int))) ty3 rfl rfl (hb.cl.field (i := 1) rfl)) ?_
  refine RL.val (x_moveI rfl) ?_
  refine RL.val (litI (c := ((p + n : Nat) : Int)) (x_add rfl rfl (by omega) (by omega)) rfl) ?_
  refine RL.val (x_nilCheck rfl) ?_
  refine RL.val (x_fld (o' := 1) Tryz.underlying247 rfl ty3 rfl rfl rfl) ?_
  refine RL.st rfl <| St1.store (v := .int .i64 (((p + n : Nat) : Int))) ty3 rfl rfl rfl (by simp [Value.cells, Value.oneCell']) hb (by simp) ?_
  intro w_15 hb_ K_16
  have hb' : Blk w_15 b [.slice (a) (bs.length) (c), .int .i64 (((p + n : Nat) : Int)), .bool (true)] 247 := hb_
  clear hb_
  replace ho := ho.keepO K_16 (fun q_ hq_ eq_ => hab (by simp only [one] at eq_; rw [← eq_]; exact hq_))
  replace ho_7 := ho_7.keepO K_16 (fun q_ hq_ eq_ => pr_12 (by simp only [one] at eq_; rw [← eq_]; exact hq_))
  replace K0 := K0.trans K_16 (fun x _ hx => by simp only [one] at hx; subst hx; exact rfl)
  replace hb := hb'
  clear hb'
  refine RL.nil ?_
  refine Run.seq ?_
  refine Run.region ?_
  refine RL.val (x_moveSl rfl) ?_
  refine RL.val (x_assignSl rfl) ?_
  refine RL.nil ?_
  refine Run.ret1 (v := .slice (a_4) ((([] : List UInt8) ++ (bs.take (p + n)).drop p).length) (c_5)) Tryz.func190 rfl rfl ?_
  rw [List.nil_append, take_part] at ho_7
  rw [show (([] : List UInt8) ++ ((bs.take (p + n)).drop p)) = (bs.drop p).take n by rw [List.nil_append, take_part]]
  exact ⟨_, rfl, a_4, c_5, rfl, ho_7, pw_14, hb, K0⟩

set_option maxRecDepth 100000 in
set_option maxHeartbeats 4000000 in
theorem rdNumber_ (b : Nat) (a : Option Addr) (c : Nat) (bs : List UInt8) (p : Nat) (w : World) (hb : Blk w b [.slice a bs.length c, .int .i64 ((p : Nat) : Int), .bool true] 247) (ho : OwnSl w 5 a c bs) (hab : ¬ own a b) (hp : p ≤ bs.length) (hl : bs.length ≤ 1073741824) :
    Calls Tryz.prog 242 #[.pointer (some ⟨b, 0, none⟩)] w (Two (fun v w' => ∃ n k, numL 0 0 (bs.drop p) = .ok (n, k) ∧ v = .int .i64 ((n : Nat) : Int) ∧ Blk w' b [.slice a bs.length c, .int .i64 ((p + k : Nat) : Int), .bool true] 247 ∧ Keeps (one b) w w') (fun ch w' => ∃ e, numL 0 0 (bs.drop p) = .error e ∧ ch = raisedBy 44 (.int .i64 e) ∧ Keeps (one b) w w')) := by
  refine calls_run (n := 59) Tryz.func242 rfl rfl rfl ?_
  refine Run.seq ?_
  refine Run.region ?_
  refine RL.val (x_assignI rfl) ?_
  refine RL.nil ?_
  refine Run.seq ?_
  refine Run.draw' (m := 6) (by kernel_rfl) rfl ?_
  intro w_1 K_2
  replace ho := ho.ext K_2
  replace hb := hb.ext K_2
  have K0 := (K_2 : Ext w _).to (S := (one b))
  refine RA.take (v := .pointer (some ⟨b, 0, none⟩)) 0 rfl (by kernel_rfl) rfl (by rintro _ rfl; exact (x_moveP rfl)) ?_
  refine RA.take (v := .pointer (some ⟨b, 0, none⟩)) 1 rfl (by kernel_rfl) rfl (by rintro _ rfl; exact (x_nilCheck rfl)) ?_
  refine RA.take (v := .pointer (some ⟨b, 1, none⟩)) 2 rfl (by kernel_rfl) rfl (by rintro _ rfl; exact (x_fld (o' := 1) Tryz.underlying247 rfl ty3 rfl rfl rfl)) ?_
  refine RA.take (v := .int .i64 (((p : Nat) : Int))) 3 rfl (by kernel_rfl) rfl (by rintro _ rfl; exact (x_ld (v := .int .i64 (((p : Nat) : Int))) ty3 rfl rfl (hb.cl.field (i := 1) rfl))) ?_
  refine RA.take (v := .int .i64 (0)) 4 rfl (by kernel_rfl) rfl (by rintro _ rfl; exact (x_assignI rfl)) ?_
  refine RA.take (v := .int .i64 (((p : Nat) : Int))) 5 rfl (by kernel_rfl) rfl (by rintro _ rfl; exact (x_assignI rfl)) ?_
  refine RA.done (by kernel_rfl) ?_
  refine Run.seq ?_
  refine Run.region ?_
  refine RL.val (x_assignI rfl) ?_
  refine RL.nil ?_
  refine Run.block ?_
  refine Run.loop (ι := Nat) (fun i ρ' w' => ∃ n : Nat, Holds ρ' [(0, .pointer (some ⟨b, 0, none⟩)), (3, .int .i64 (((n : Nat) : Int))), (4, .int .i64 (((p + i : Nat) : Int))), (5, .int .i64 (((i : Nat) : Int)))] ∧ Keeps (one b) w w' ∧ (Blk w' b [.slice (a) (bs.length) (c), .int .i64 (((p : Nat) : Int)), .bool (true)] 247) ∧ (OwnSl w' 5 (a) (c) (bs)) ∧ (i ≤ 8) ∧ (p + i ≤ bs.length) ∧ (n < 2 ^ (7 * i)) ∧ (numL 0 0 (bs.drop p) = numL i n (bs.drop (p + i)))) (fun i => 8 - i) 0 ?_ ?_
  · refine ⟨0, ⟨rfl, rfl, rfl, rfl, trivial⟩, K0, hb, ho, ?_, ?_, ?_, ?_⟩
    · omega
    · omega
    · decide
    · rfl
  clear ho hb
  clear K0
  rintro i ρ_5 w_3 ⟨n, hH_4, K0, hb, ho, hi, hpi, hn, hN⟩ ih1
  obtain ⟨ρ₀, rfl⟩ := hH_4.ex
  clear hH_4
  refine Run.seq ?_
  refine Run.block ?_
  refine Run.seq ?_
  refine Run.seq ?_
  refine Run.region ?_
  refine RL.val (x_moveI rfl) ?_
  refine RL.val (x_moveP rfl) ?_
  refine RL.val (x_nilCheck rfl) ?_
  refine RL.val (x_fld (o' := 0) Tryz.underlying247 rfl ty74 rfl rfl rfl) ?_
  refine RL.val (x_ld (v := .slice (a) (bs.length) (c)) ty74 rfl rfl (hb.cl.field (i := 0) rfl)) ?_
  refine RL.val (x_lenSl Tryz.underlying74 rfl) ?_
  refine RL.val (x_eqI rfl rfl) ?_
  refine RL.nil ?_
  refine Run.cond rfl (fun hc19 => ?_) (fun hc19 => ?_)
  · try simp only [br] at hc19
    refine Run.region ?_
    refine RL.st rfl <| St1.callP (vals := [.int .i64 (2)]) en189 rfl (dies_two (cutD 2 _)) Tryz.func242 ?_ ?_
    · rintro _ _ ⟨rfl, rfl⟩
      exact .inr ⟨_, rfl, 2, hN.trans (numL_end (by omega)), rfl, K0⟩
    exact fun _ _ h => h.elim
  · try simp only [br] at hc19
    refine Run.skip ?_
    refine Run.seq ?_
    refine Run.region ?_
    refine RL.val (x_moveP rfl) ?_
    refine RL.val (x_nilCheck rfl) ?_
    refine RL.val (x_fld (o' := 0) Tryz.underlying247 rfl ty74 rfl rfl rfl) ?_
    refine RL.val (x_ld (v := .slice (a) (bs.length) (c)) ty74 rfl rfl (hb.cl.field (i := 0) rfl)) ?_
    refine RL.val (x_moveI rfl) ?_
    obtain ⟨b_6, o_7, x, hx, ha_8, hc_9⟩ := ho.sl.el (i := p + i) (by first | omega | (simp only [List.length_set]; omega))
    refine RL.val (x_idxN Tryz.underlying74 ty5 rfl rfl ha_8 (by first | omega | (simp only [List.length_set]; omega))) ?_
    refine RL.val (x_ldV (v := .int .u8 (((x).toNat : Int))) (y := x) ty5 rfl hc_9 rfl) ?_
    refine RL.val (x_convN (kd := .i64) (a := (x).toNat) rfl ⟨_, Tryz.underlying5⟩ Tryz.underlying3 (show (x).toNat < 9223372036854775808 by have := UInt8.toNat_lt x; omega)) ?_
    refine RL.val (x_assignI rfl) ?_
    refine RL.nil ?_
    refine Run.seq ?_
    refine Run.region ?_
    refine RL.val (x_moveI rfl) ?_
    refine RL.val (litI (c := (((p + i) + 1 : Nat) : Int)) (x_add rfl rfl (by omega) (by omega)) rfl) ?_
    refine RL.val (x_assignI rfl) ?_
    refine RL.nil ?_
    refine Run.seq ?_
    refine Run.seq ?_
    refine Run.region ?_
    refine RL.val (x_moveI rfl) ?_
    refine RL.val (x_eqI rfl rfl) ?_
    refine RL.val (x_moveB rfl) ?_
    refine RL.gval (wantedT rfl rfl rfl rfl) (fun hg => (x_moveI rfl)) ?_
    refine RL.gval (wantedT rfl rfl rfl rfl) (fun hg => (x_geI (gvr hg) rfl)) ?_
    refine RL.val (x_and rfl rfl rfl) ?_
    refine RL.nil ?_
    refine Run.cond rfl (fun hc36 => ?_) (fun hc36 => ?_)
    · try simp only [br] at hc36
      refine Run.region ?_
      refine RL.st rfl <| St1.callP (vals := [.int .i64 (5)]) en189 rfl (dies_two (cutD 5 _)) Tryz.func242 ?_ ?_
      · rintro _ _ ⟨rfl, rfl⟩
        exact .inr ⟨_, rfl, 5, hN.trans (numL_range hx (by omega) (by omega)), rfl, K0⟩
      exact fun _ _ h => h.elim
    · try simp only [br] at hc36
      refine Run.skip ?_
      refine Run.seq ?_
      have hp7 := pow7_le (i := i) (by omega)
      have hd7 := dig7_le x.toNat i
      have hs7 := pow7_step i
      have hx8 := x.toNat_lt
      refine Run.region ?_
      refine RL.val (x_moveI rfl) ?_
      refine RL.val (x_moveI rfl) ?_
      refine RL.val (x_andL (kd := .i64) (a := (x).toNat) (b := 127) rfl rfl 7 128 (by decide) (by decide) (show (x).toNat < 9223372036854775808 by have := UInt8.toNat_lt x; omega) (by decide)) ?_
      refine RL.val (x_moveI rfl) ?_
      refine RL.val (litI (c := ((7 * i : Nat) : Int)) (x_mul rfl rfl (by omega) (by omega)) rfl) ?_
      refine RL.val (x_shlN (kd := .i64) (a := ((x).toNat) % 128) (b := 7 * i) rfl rfl (show 7 * i ≤ 64 by omega) (show _ < 9223372036854775808 by omega)) ?_
      refine RL.val (litI (c := ((n + x.toNat % 128 * 2 ^ (7 * i) : Nat) : Int)) (x_orN (kd := .i64) (a := n) (b := (((x).toNat) % 128) * 2 ^ (7 * i)) rfl rfl (show _ < 9223372036854775808 by omega) (show _ < 9223372036854775808 by omega)) (by rw [or_parts _ _ _ hn])) ?_
      refine RL.val (x_assignI rfl) ?_
      refine RL.nil ?_
      refine Run.seq ?_
      refine Run.region ?_
      refine RL.val (x_moveI rfl) ?_
      refine RL.val (x_ltI rfl rfl) ?_
      refine RL.nil ?_
      refine Run.cond rfl (fun hc46 => ?_) (fun hc46 => ?_)
      · try simp only [br] at hc46
        refine Run.seq ?_
        refine Run.seq ?_
        refine Run.region ?_
        refine RL.val (x_moveI rfl) ?_
        refine RL.val (x_gtI rfl rfl) ?_
        refine RL.val (x_moveB rfl) ?_
        refine RL.gval (wantedT rfl rfl rfl rfl) (fun hg => (x_moveI rfl)) ?_
        refine RL.gval (wantedT rfl rfl rfl rfl) (fun hg => (x_eqI (gvr hg) rfl)) ?_
        refine RL.val (x_and rfl rfl rfl) ?_
        refine RL.nil ?_
        refine Run.cond rfl (fun hc52 => ?_) (fun hc52 => ?_)
        · try simp only [br] at hc52
          refine Run.region ?_
          refine RL.st rfl <| St1.callP (vals := [.int .i64 (10)]) en189 rfl (dies_two (cutD 10 _)) Tryz.func242 ?_ ?_
          · rintro _ _ ⟨rfl, rfl⟩
            exact .inr ⟨_, rfl, 10, hN.trans (numL_form hx (by omega) (by omega)), rfl, K0⟩
          exact fun _ _ h => h.elim
        · try simp only [br] at hc52
          refine Run.skip ?_
          refine Run.seq ?_
          refine Run.region ?_
          refine RL.val (x_moveP rfl) ?_
          refine RL.val (x_moveI rfl) ?_
          refine RL.val (x_nilCheck rfl) ?_
          refine RL.val (x_fld (o' := 1) Tryz.underlying247 rfl ty3 rfl rfl rfl) ?_
          refine RL.st rfl <| St1.store (v := .int .i64 ((((p + i) + 1 : Nat) : Int))) ty3 rfl rfl rfl (by simp [Value.cells, Value.oneCell']) hb (by simp) ?_
          intro w_12 hb_ K_13
          have hb' : Blk w_12 b [.slice (a) (bs.length) (c), .int .i64 ((((p + i) + 1 : Nat) : Int)), .bool (true)] 247 := hb_
          clear hb_
          replace ho := ho.keepO K_13 (fun q_ hq_ eq_ => hab (by simp only [one] at eq_; rw [← eq_]; exact hq_))
          replace K0 := K0.trans K_13 (fun x _ hx => by simp only [one] at hx; subst hx; exact rfl)
          replace hb := hb'
          clear hb'
          refine RL.nil ?_
          refine Run.seq ?_
          refine Run.region ?_
          refine RL.val (x_moveI rfl) ?_
          refine RL.val (x_assignI rfl) ?_
          refine RL.nil ?_
          refine Run.ret1 (v := .int .i64 (((n + x.toNat % 128 * 2 ^ (7 * i) : Nat) : Int))) Tryz.func242 rfl rfl ?_
          exact .inl ⟨_, rfl, _, _, hN.trans (numL_ok hx (by omega) (by omega)), rfl, hb, K0⟩
      · try simp only [br] at hc46
        refine Run.skip ?_
        refine Run.inBlock ?_
        refine Run.region ?_
        refine RL.val (x_moveI rfl) ?_
        refine RL.val (litI (c := ((i + 1 : Nat) : Int)) (x_add rfl rfl (by omega) (by omega)) rfl) ?_
        refine RL.val (x_assignI rfl) ?_
        refine RL.nil ?_
        refine ih1 (i + 1) _ _ ?_ (by omega)
        refine ⟨n + x.toNat % 128 * 2 ^ (7 * i), ⟨rfl, rfl, rfl, rfl, trivial⟩, K0, hb, ho, ?_, ?_, ?_, ?_⟩
        · omega
        · omega
        · omega
        · exact hN.trans (numL_more hx (by omega) (by omega))

end Go.Proofs.YtnphndfbgdkgbaaGreatDoor
