/-
  HandoffApart.
-/
import Derived.Test.YthhhkjmlnjbnjaaRows
import Derived.Test.YthhhkjmlnjbnjaaOk
namespace Go.Proofs.Ythhhkjmlnjbnjaa
attribute [local irreducible] St1 RL RA RT RT1 Run

/-- a transfer whose queue holds just what is on the way -/
structure QInv (p : Int) (ks rest : List ByteArray) (xs : List Item) (Q : List HMsg) : Prop where
  ex : ∃ sent : List Item, xs = sent ++ newI rest ∧ Q = sent.map (msgH 0 1 p) ∧ sent.map (·.key) = ks ∧ ∀ x ∈ sent, x.since = 0
  len : ks.length ≤ 4
  full : rest = [] ∨ ks.length = 4
  nodup : (ks ++ rest).Nodup
section
variable {p r : Int} {ks rest : List ByteArray} {xs : List Item} {Q : List HMsg} {j : Nat}
theorem QInv.lens (h : QInv p ks rest xs Q) : Q.length = ks.length ∧ xs.length = ks.length + rest.length := by
  obtain ⟨sent, rfl, rfl, h1, -⟩ := h.ex
  have := congrArg List.length h1
  rw [List.length_map] at this
  rw [List.length_map, List.length_append, newI_len]
  exact ⟨this, by omega⟩
theorem QInv.at (h : QInv p ks rest xs Q) {x : HMsg} (hx : Q[j]? = some x) : ks[j]? = some x.key ∧ x.part = p ∧ x.to = 1 := by
  obtain ⟨sent, rfl, rfl, h1, -⟩ := h.ex
  rw [List.getElem?_map, Option.map_eq_some_iff] at hx
  obtain ⟨y, hy, rfl⟩ := hx
  exact ⟨by rw [← h1, List.getElem?_map, hy]; rfl, rfl, rfl⟩
theorem findIdx_nodup {sent : List Item} {l : List Item} {y : Item} (hy : sent[j]? = some y) (h0 : 0 ≤ y.since) (hn : (sent.map (·.key)).Nodup) : (sent ++ l).findIdx? (ackI y.key y.req) = some j := by
  obtain ⟨hj, rfl⟩ := List.getElem?_eq_some_iff.1 hy
  refine findIdx_some (x := sent[j]) (by rw [List.getElem?_append_left hj]; exact hy) ?_ ?_
  · simp only [ackI, h0, decide_true, Bool.and_self]
  · intro i x hi hx
    rw [List.getElem?_append_left (by omega), List.getElem?_eq_getElem (by omega)] at hx
    simp only [Option.some.injEq] at hx
    subst hx
    have hne : sent[i].key ≠ sent[j].key := fun e => by
      have := List.pairwise_iff_getElem.1 hn i j (by rw [List.length_map]; omega) (by rw [List.length_map]; exact hj) hi
      simp only [List.getElem_map] at this
      exact this e
    simp only [ackI, hne, decide_false, Bool.false_and]
theorem QInv.ack (h : QInv p ks rest xs Q) {x : HMsg} (hx : Q[j]? = some x) : xs.findIdx? (ackI (handedM x).key (handedM x).req) = some j := by
  obtain ⟨sent, rfl, rfl, h1, h2⟩ := h.ex
  rw [List.getElem?_map, Option.map_eq_some_iff] at hx
  obtain ⟨y, hy, rfl⟩ := hx
  exact findIdx_nodup hy (by rw [h2 y (List.mem_of_getElem? hy)]; exact Int.le_refl _) (by rw [h1]; exact (List.nodup_append.1 h.nodup).1)
theorem QInv.step (h : QInv p ks rest xs Q) (hj : j < ks.length) : QInv p (delI ks j ++ rest.take 1) (rest.drop 1) (tellP 0 r (delI xs j)).L (delI Q j ++ (tellP 0 r (delI xs j)).T.map (msgH 0 1 p)) ∧ r ≤ (tellP 0 r (delI xs j)).r ∧ (tellP 0 r (delI xs j)).r ≤ r + 1 ∧ (tellP 0 r (delI xs j)).T.length ≤ 1 := by
  obtain ⟨sent, rfl, rfl, h1, h2⟩ := h.ex
  have hl := h.len
  have hsl : sent.length = ks.length := by rw [← h1, List.length_map]
  have hd : delI (sent ++ newI rest) j = delI sent j ++ newI rest := by
    rw [delI, delI, List.take_append_of_le_length (by omega), List.drop_append_of_le_length (by omega), List.append_assoc]
  have hdl : (delI sent j).length + 1 = sent.length := del_length (by omega)
  have h3 : rest = [] ∨ (delI sent j).length = 3 := h.full.imp id (fun e => by omega)
  rw [hd, tell_next (fun x hx => by rw [h2 x (mem_del hx)]; omega) (by omega) h3]
  refine ⟨⟨⟨delI sent j ++ numL 0 r (rest.take 1), rfl, by rw [List.map_append, del_map], by rw [List.map_append, del_map, h1, numL_key], fun x hx => ?_⟩, ?_, ?_, ?_⟩, ?_, ?_, ?_⟩
  · rcases List.mem_append.1 hx with hx | hx
    · exact h2 x (mem_del hx)
    · exact (numL_mem hx).2
  · have := del_length hj
    rw [List.length_append, List.length_take]; omega
  · rcases h3 with h4 | h4
    · left; rw [h4]; rfl
    · cases rest with
      | nil => left; rfl
      | cons k rr => right; have := del_length hj; rw [List.length_append, List.length_take, List.length_cons]; omega
  · have hn := h.nodup
    rw [List.append_assoc, List.take_append_drop]
    refine hn.sublist (List.Sublist.append_right ?_ _)
    rw [delI]
    have e : ks = ks.take j ++ ks.drop j := (List.take_append_drop j ks).symm
    conv => rhs; rw [e]
    exact List.Sublist.append_left (List.drop_sublist_drop_left _ (by omega)) _
  · show r ≤ r + ((min rest.length 1 : Nat) : Int); omega
  · show r + ((min rest.length 1 : Nat) : Int) ≤ r + 1; omega
  · show (numL 0 r (rest.take 1)).length ≤ 1
    rw [numL_len, List.length_take]; omega
theorem QInv.first (p r : Int) {L : List ByteArray} (h : Rising L) : QInv p (L.take 4) (L.drop 4) (tellP 0 r (newI L)).L ((tellP 0 r (newI L)).T.map (msgH 0 1 p)) := by
  rw [tell_first]
  refine ⟨⟨_, rfl, rfl, numL_key, fun x hx => (numL_mem hx).2⟩, List.length_take_le _ _, ?_, by rw [List.take_append_drop]; exact h.nodup⟩
  by_cases h4 : 4 ≤ L.length
  · right; rw [List.length_take]; omega
  · left; exact List.drop_eq_nil_of_le (by omega)
end
section
variable {w : World} {s : Nat} {F : Nat → Prop} {L M : List ByteArray} {r : Int} {xs ys zs : List Item} {p : Int} {ks rest : List ByteArray} {Q : List HMsg} {j : Nat}
theorem ap_begin (h : SndAt w s F 0 0 0 []) (hR : Rising L) (hk : L.any (fun k => !isKey k) = false) (ak : Option Addr) (ck : Nat) (hka : SlOf w ak L) (hdk : ∀ x, ak = some x → ¬ F x.block) (hl : L.length ≤ 60) :
    Calls Try.prog 11 #[.pointer (some ⟨s, 0, none⟩), .int .i64 1, .int .i64 1, .slice ak L.length ck] w (Ret (SStep s F w 0 0 0 0 [⟨1, 1, newI L⟩])) := al_begin h hR hk (by decide) (by decide) ak ck hka hdk hl
theorem ap_begin2 (h : SndAt w s F 0 0 0 [⟨1, 1, newI L⟩]) (hR : Rising M) (hk : M.any (fun k => !isKey k) = false) (ak : Option Addr) (ck : Nat) (hka : SlOf w ak M) (hdk : ∀ x, ak = some x → ¬ F x.block) (hl : M.length ≤ 60) :
    Calls Try.prog 11 #[.pointer (some ⟨s, 0, none⟩), .int .i64 2, .int .i64 1, .slice ak M.length ck] w (Ret (SStep s F w 0 0 0 0 [⟨1, 1, newI L⟩, ⟨2, 1, newI M⟩])) := by
  have := beginD h 2 1 ak M ck (by show 1 ≤ 1000; omega) hka hdk (by omega) (fun k hk2 => by have := List.any_eq_false.1 hk k hk2; have := isKey_size (k := k) (by simpa using this); omega)
  rw [sort_rising hR, uniq_rising hR] at this
  have e := beg_new (self := 0) (pl := [⟨1, 1, newI L⟩]) (part := 2) (to := 1) (nl := newI M) (keys := M) (by decide) hk rfl rfl
  rwa [e.1, e.2] at this
theorem ap_tick1 (h : SndAt w s F 0 0 0 [⟨1, 1, newI L⟩]) (hR : Rising L) : Calls Try.prog 14 #[.pointer (some ⟨s, 0, none⟩), .int .i64 0] w
    (Ret fun v w' => ∃ T xs' r', QInv 1 (L.take 4) (L.drop 4) xs' T ∧ 0 ≤ r' ∧ r' ≤ 4 ∧ MStep s F w T 0 0 r' [⟨1, 1, xs'⟩] v w') := by
  have := tickD h 0 (by show 1 ≤ 1000; omega) (by omega) (by omega)
  rw [Int.max_self, tick_one] at this
  obtain ⟨h1, h2⟩ := tellP_T (now := 0) (r := 0) (l := newI L)
  exact ret_mono this fun v w' hM => ⟨_, _, _, QInv.first 1 0 hR, (by show (0 : Int) ≤ (tellP 0 0 (newI L)).r; omega), (by show (tellP 0 0 (newI L)).r ≤ 4; omega), hM⟩
theorem ap_tick2 (h : SndAt w s F 0 0 0 [⟨1, 1, newI L⟩, ⟨2, 1, newI M⟩]) (hR : Rising L) (hM : Rising M) : Calls Try.prog 14 #[.pointer (some ⟨s, 0, none⟩), .int .i64 0] w
    (Ret fun v w' => ∃ T1 T2 ys' zs' r', QInv 1 (L.take 4) (L.drop 4) ys' T1 ∧ QInv 2 (M.take 4) (M.drop 4) zs' T2 ∧ 0 ≤ r' ∧ r' ≤ 8 ∧ MStep s F w (T1 ++ T2) 0 0 r' [⟨1, 1, ys'⟩, ⟨2, 1, zs'⟩] v w') := by
  have := tickD h 0 (by show 2 ≤ 1000; omega) (by omega) (by omega)
  rw [Int.max_self] at this
  obtain ⟨h1, h2⟩ := tellP_T (now := 0) (r := 0) (l := newI L)
  obtain ⟨h3, h4⟩ := tellP_T (now := 0) (r := (tellP 0 0 (newI L)).r) (l := newI M)
  have e : tickP 0 0 0 [⟨1, 1, newI L⟩, ⟨2, 1, newI M⟩] = ⟨(tellP 0 (tellP 0 0 (newI L)).r (newI M)).r, [⟨1, 1, (tellP 0 0 (newI L)).L⟩, ⟨2, 1, (tellP 0 (tellP 0 0 (newI L)).r (newI M)).L⟩],
    (tellP 0 0 (newI L)).T.map (msgH 0 1 1) ++ (tellP 0 (tellP 0 0 (newI L)).r (newI M)).T.map (msgH 0 1 2)⟩ := rfl
  rw [e] at this
  exact ret_mono this fun v w' hM2 => ⟨_, _, _, _, _, QInv.first 1 0 hR, QInv.first 2 _ hM, (by show (0 : Int) ≤ (tellP 0 (tellP 0 0 (newI L)).r (newI M)).r; omega), (by show (tellP 0 (tellP 0 0 (newI L)).r (newI M)).r ≤ 8; omega), hM2⟩
theorem ap_on1 (h : SndAt w s F 0 0 r [⟨1, 1, xs⟩]) (hI : QInv 1 ks rest xs Q) (x : HMsg) (hx : Q[j]? = some x) (hr : 0 ≤ r ∧ r ≤ 1000) :
    Calls Try.prog 15 #[.pointer (some ⟨s, 0, none⟩), .agg #[.int .i64 (((handedM x)).kind), .int .i64 (((handedM x)).frm), .int .i64 (((handedM x)).to), .int .i64 (((handedM x)).req), .string (((handedM x)).key), .slice (none) (0) (0), .slice (none) (0) (0), .slice (none) (0) (0), .int .i64 (0), .int .i64 (((handedM x)).part), .int .i64 (0), .int .i64 (0), .int .i64 (0), .int .i64 (0), .slice (none) (0) (0), .slice (none) (0) (0), .slice (none) (0) (0)], .int .i64 0] w (Ret fun v w' => ∃ T xs' r', QInv 1 (delI ks j ++ rest.take 1) (rest.drop 1) xs' (delI Q j ++ T) ∧ r ≤ r' ∧ r' ≤ r + 1 ∧ T.length ≤ 1 ∧ MStep s F w T 0 0 r' [⟨1, 1, xs'⟩] v w') := by
  have hO := onD h (handedM x) 0 (by show 1 ≤ 1000; omega) (by omega) (by omega)
  rw [Int.max_self] at hO
  obtain ⟨h1, h2, h3⟩ := hI.at hx
  have hj : j < ks.length := (List.getElem?_eq_some_iff.1 h1).1
  have hi : List.findIdx? (sameT (handedM x).part (handedM x).frm) [(⟨1, 1, xs⟩ : PTr Item)] = some 0 := by
    rw [List.findIdx?_cons, if_pos]
    simp only [sameT, handedM, h2, h3, decide_true, Bool.and_self]
  have e : onP 0 0 r [⟨1, 1, xs⟩] (handedM x) = ⟨(tellP 0 r (delI xs j)).r, [⟨1, 1, (tellP 0 r (delI xs j)).L⟩], (tellP 0 r (delI xs j)).T.map (msgH 0 1 1)⟩ := by
    unfold onP; rw [if_pos (show (handedM x).kind = 11 from rfl), hi]; simp only [List.getElem?_cons_zero, hI.ack hx, List.set_cons_zero]
  rw [e] at hO
  obtain ⟨q1, q2, q3, q4⟩ := hI.step (r := r) hj
  exact ret_mono hO fun v w' hM => ⟨_, _, _, q1, q2, q3, by rw [List.length_map]; exact q4, hM⟩
theorem ap_on2 (h : SndAt w s F 0 0 r [⟨1, 1, ys⟩, ⟨2, 1, zs⟩]) (hI : QInv 1 ks rest ys Q) (x : HMsg) (hx : Q[j]? = some x) (hr : 0 ≤ r ∧ r ≤ 1000) :
    Calls Try.prog 15 #[.pointer (some ⟨s, 0, none⟩), .agg #[.int .i64 (((handedM x)).kind), .int .i64 (((handedM x)).frm), .int .i64 (((handedM x)).to), .int .i64 (((handedM x)).req), .string (((handedM x)).key), .slice (none) (0) (0), .slice (none) (0) (0), .slice (none) (0) (0), .int .i64 (0), .int .i64 (((handedM x)).part), .int .i64 (0), .int .i64 (0), .int .i64 (0), .int .i64 (0), .slice (none) (0) (0), .slice (none) (0) (0), .slice (none) (0) (0)], .int .i64 0] w (Ret fun v w' => ∃ T xs' r', QInv 1 (delI ks j ++ rest.take 1) (rest.drop 1) xs' (delI Q j ++ T) ∧ r ≤ r' ∧ r' ≤ r + 1 ∧ T.length ≤ 1 ∧ MStep s F w T 0 0 r' [⟨1, 1, xs'⟩, ⟨2, 1, zs⟩] v w') := by
  have hO := onD h (handedM x) 0 (by show 2 ≤ 1000; omega) (by omega) (by omega)
  rw [Int.max_self] at hO
  obtain ⟨h1, h2, h3⟩ := hI.at hx
  have hj : j < ks.length := (List.getElem?_eq_some_iff.1 h1).1
  have hi : List.findIdx? (sameT (handedM x).part (handedM x).frm) [(⟨1, 1, ys⟩ : PTr Item), ⟨2, 1, zs⟩] = some 0 := by
    rw [List.findIdx?_cons, if_pos]
    simp only [sameT, handedM, h2, h3, decide_true, Bool.and_self]
  have e : onP 0 0 r [⟨1, 1, ys⟩, ⟨2, 1, zs⟩] (handedM x) = ⟨(tellP 0 r (delI ys j)).r, [⟨1, 1, (tellP 0 r (delI ys j)).L⟩, ⟨2, 1, zs⟩], (tellP 0 r (delI ys j)).T.map (msgH 0 1 1)⟩ := by
    unfold onP; rw [if_pos (show (handedM x).kind = 11 from rfl), hi]; simp only [List.getElem?_cons_zero, hI.ack hx, List.set_cons_zero]
  rw [e] at hO
  obtain ⟨q1, q2, q3, q4⟩ := hI.step (r := r) hj
  exact ret_mono hO fun v w' hM => ⟨_, _, _, q1, q2, q3, by rw [List.length_map]; exact q4, hM⟩
theorem ap_on3 (h : SndAt w s F 0 0 r [⟨1, 1, ys⟩, ⟨2, 1, zs⟩]) (hI : QInv 2 ks rest zs Q) (x : HMsg) (hx : Q[0]? = some x) (hr : 0 ≤ r ∧ r ≤ 1000) :
    Calls Try.prog 15 #[.pointer (some ⟨s, 0, none⟩), .agg #[.int .i64 (((handedM x)).kind), .int .i64 (((handedM x)).frm), .int .i64 (((handedM x)).to), .int .i64 (((handedM x)).req), .string (((handedM x)).key), .slice (none) (0) (0), .slice (none) (0) (0), .slice (none) (0) (0), .int .i64 (0), .int .i64 (((handedM x)).part), .int .i64 (0), .int .i64 (0), .int .i64 (0), .int .i64 (0), .slice (none) (0) (0), .slice (none) (0) (0), .slice (none) (0) (0)], .int .i64 0] w (Ret fun v w' => ∃ T xs' r', QInv 2 (delI ks 0 ++ rest.take 1) (rest.drop 1) xs' (Q.drop 1 ++ T) ∧ r ≤ r' ∧ r' ≤ r + 1 ∧ T.length ≤ 1 ∧ MStep s F w T 0 0 r' [⟨1, 1, ys⟩, ⟨2, 1, xs'⟩] v w') := by
  have hO := onD h (handedM x) 0 (by show 2 ≤ 1000; omega) (by omega) (by omega)
  rw [Int.max_self] at hO
  obtain ⟨h1, h2, h3⟩ := hI.at hx
  have hj : 0 < ks.length := (List.getElem?_eq_some_iff.1 h1).1
  have hi : List.findIdx? (sameT (handedM x).part (handedM x).frm) [(⟨1, 1, ys⟩ : PTr Item), ⟨2, 1, zs⟩] = some 1 := by
    rw [List.findIdx?_cons, if_neg, List.findIdx?_cons, if_pos]
    · rfl
    · simp only [sameT, handedM, h2, h3, decide_true, Bool.and_self]
    · simp [sameT, handedM, h2]
  have e : onP 0 0 r [⟨1, 1, ys⟩, ⟨2, 1, zs⟩] (handedM x) = ⟨(tellP 0 r (delI zs 0)).r, [⟨1, 1, ys⟩, ⟨2, 1, (tellP 0 r (delI zs 0)).L⟩], (tellP 0 r (delI zs 0)).T.map (msgH 0 1 2)⟩ := by
    unfold onP; rw [if_pos (show (handedM x).kind = 11 from rfl), hi]; simp only [List.getElem?_cons_succ, List.getElem?_cons_zero, hI.ack hx, List.set_cons_succ, List.set_cons_zero]
  rw [e] at hO
  obtain ⟨q1, q2, q3, q4⟩ := hI.step (r := r) hj
  have ed : delI Q 0 = Q.drop 1 := by rw [delI, List.take_zero, List.nil_append]
  rw [ed] at q1
  exact ret_mono hO fun v w' hM => ⟨_, _, _, q1, q2, q3, by rw [List.length_map]; exact q4, hM⟩
theorem ap_left1 {pl : List (PTr Item)} (h : SndAt w s F 0 0 r (⟨1, 1, xs⟩ :: pl)) (hl : pl.length ≤ 1) : Calls Try.prog 17 #[.pointer (some ⟨s, 0, none⟩), .int .i64 1, .int .i64 1] w (Ret fun v w' => v = .int .i64 ((xs.length : Nat) : Int) ∧ Ext w w') :=
  leftD h 1 1 (by simp only [List.length_cons]; omega)
theorem ap_done1 {pl : List (PTr Item)} (h : SndAt w s F 0 0 r (⟨1, 1, xs⟩ :: pl)) (hl : pl.length ≤ 1) : Calls Try.prog 18 #[.pointer (some ⟨s, 0, none⟩), .int .i64 1, .int .i64 1] w (Ret fun v w' => v = .bool (decide (((xs.length : Nat) : Int) = 0)) ∧ Ext w w') := by
  have := doneD h 1 1 (by simp only [List.length_cons]; omega)
  rw [show doneB (⟨1, 1, xs⟩ :: pl) 1 1 = xs.isEmpty from rfl, done_eq] at this
  exact this
end

theorem findI_lo {α : Type} (p : α → Bool) (xs : List α) : -1 ≤ findI p xs := by unfold findI; split <;> omega
theorem of_one {T1 T2 : List HMsg} {ks rest ks2 rest2 : List ByteArray} {ys zs : List Item} (h1 : QInv 1 ks rest ys T1) (h2 : QInv 2 ks2 rest2 zs T2) : (T1 ++ T2).filter (fun m => !(m.part != 1)) = T1 ∧ (T1 ++ T2).filter (fun m => !(m.part != 2)) = T2 := by
  have p1 : ∀ m ∈ T1, m.part = 1 := fun m hm => by obtain ⟨i, hi, rfl⟩ := List.getElem_of_mem hm; exact (h1.at (List.getElem?_eq_getElem hi)).2.1
  have p2 : ∀ m ∈ T2, m.part = 2 := fun m hm => by obtain ⟨i, hi, rfl⟩ := List.getElem_of_mem hm; exact (h2.at (List.getElem?_eq_getElem hi)).2.1
  rw [List.filter_append, List.filter_append]
  refine ⟨?_, ?_⟩
  · rw [List.filter_eq_self.2 (fun m hm => by simp [p1 m hm]), List.filter_eq_nil_iff.2 (fun m hm => by simp [p2 m hm]), List.append_nil]
  · rw [List.filter_eq_nil_iff.2 (fun m hm => by simp [p1 m hm]), List.filter_eq_self.2 (fun m hm => by simp [p2 m hm]), List.nil_append]

theorem en22 : Enters Try.prog 22 := enters_of Try.func22 rfl (by kernel_rfl)
theorem en23 : Enters Try.prog 23 := enters_of Try.func23 rfl (by kernel_rfl)
theorem en24 : Enters Try.prog 24 := enters_of Try.func24 rfl (by kernel_rfl)
theorem en25 : Enters Try.prog 25 := enters_of Try.func25 rfl (by kernel_rfl)
theorem en26 : Enters Try.prog 26 := enters_of Try.func26 rfl (by kernel_rfl)
theorem en54 : Enters Try.prog 54 := enters_of Try.func54 rfl (by kernel_rfl)

set_option maxRecDepth 100000 in
set_option maxHeartbeats 4000000 in
theorem clone_msg (a : Option Addr) (xs : List HMsg) (c : Nat) (w : World) (hs : SlOf w a xs) (hl : xs.length ≤ 4294967295) :
    Calls Try.prog 25 #[.slice (a) (xs.length) (c)] w (Ret (fun v w' => ∃ a' c', v = .slice a' xs.length c' ∧ OwnSl w' 46 a' c' xs ∧ (∀ b, own a' b → w.heap.size ≤ b) ∧ Ext w w')) := by
  refine calls_run (n := 8) Try.func25 rfl rfl rfl ?_
  refine Run.seq ?_
  refine Run.region ?_
  refine RL.val (x_assignSl rfl) ?_
  refine RL.nil ?_
  refine Run.seq ?_
  refine Run.seq ?_
  refine Run.region ?_
  refine RL.val (x_moveSl rfl) ?_
  refine RL.val (x_slNil Try.underlying31 rfl rfl) ?_
  refine RL.nil ?_
  refine Run.cond rfl (fun hc4 => ?_) (fun hc4 => ?_)
  · skip
    refine Run.seq ?_
    refine Run.region ?_
    refine RL.val (x_assignSl rfl) ?_
    refine RL.nil ?_
    refine Run.ret1 (v := .slice (none) (0) (0)) Try.func25 rfl rfl ?_
    have hx := hs.nil_of hc4; subst hx; exact ⟨_, rfl, none, 0, rfl, OwnSl.nil _ _, fun b h => absurd h (own_none b), (Keeps.refl _ w)⟩
  · skip
    refine Run.skip ?_
    refine Run.seq ?_
    refine Run.region ?_
    refine RL.st rfl <| St1.buildSlice ([] : List HMsg) Try.underlying31 ty46 rfl rfl (by first | decide | (simp [Enc.size])) ?_
    intro b_1 w_2 hl_5 ho_4 K_3
    have pg_6 : ∀ q_, own (some ⟨b_1, 0, none⟩) q_ → w.heap.size ≤ q_ := fun q_ h => Nat.le_trans (Nat.le_refl _) ((ge_new hl_5) q_ h)
    clear hl_5
    have K0 := (K_3 : Ext w _)
    refine RL.val (x_moveSl rfl) ?_
    refine RL.st rfl <| St1.append (xs := ([] : List HMsg)) (ys := xs) Try.underlying31 ty46 rfl rfl rfl ho_4 (hs.ext K0) (by first | omega | (simp only [lr]; omega)) (by decide) ?_
    intro a_7 c_8 w_9 ho_10 K_11 hm_12 hrm_13
    have pg_14 : ∀ q_, own a_7 q_ → w.heap.size ≤ q_ := hm_12.ge pg_6 K0.size
    replace K0 := K0.new K_11 pg_6
    clear hm_12
    clear hrm_13
    refine RL.val (x_assignSl rfl) ?_
    refine RL.nil ?_
    refine Run.ret1 (v := .slice (a_7) ((([] : List HMsg) ++ xs).length) (c_8)) Try.func25 rfl rfl ?_
    exact ⟨_, rfl, a_7, c_8, by rw [List.nil_append], by simpa using ho_10, pg_14, K0⟩

set_option maxRecDepth 100000 in
set_option maxHeartbeats 4000000 in
theorem indexFunc_msg (a : Option Addr) (xs : List HMsg) (c : Nat) (gf : FuncId) (caps : List Value) (q : HMsg → Bool) (hen : Enters Try.prog gf) (w : World) (hs : SlOf w a xs) (hl : xs.length ≤ 4294967295) (hq : ∀ x ∈ xs, ∀ w', Ext w w' → Calls Try.prog gf (Enc.val x :: caps).toArray w' (Ret fun v w'' => v = .bool (q x) ∧ Ext w' w'')) :
    Calls Try.prog 54 #[.slice (a) (xs.length) (c), .func (.func gf) #[] caps.toArray] w (Ret (fun v w' => v = .int .i64 (findI q xs) ∧ Ext w w')) := by
  refine calls_run (n := 19) Try.func54 rfl rfl rfl ?_
  refine Run.seq ?_
  refine Run.region ?_
  refine RL.val (x_assignI rfl) ?_
  refine RL.nil ?_
  refine Run.seq ?_
  refine Run.seq ?_
  refine Run.region ?_
  refine RL.val (x_moveSl rfl) ?_
  refine RL.val (x_lenSl Try.underlying31 rfl) ?_
  refine RL.val (x_moveI rfl) ?_
  refine RL.nil ?_
  refine Run.block ?_
  refine Run.loop (ι := Nat) (fun i ρ' w' => Holds ρ' [(0, .slice (a) (xs.length) (c)), (1, .func (.func gf) #[] caps.toArray), (7, .int .i64 (((xs.length : Nat) : Int))), (8, .int .i64 (((i : Nat) : Int)))] ∧ Ext w w' ∧ (i ≤ xs.length) ∧ (NoB q xs i)) (fun i => xs.length - i) 0 ?_ ?_
  · refine ⟨⟨rfl, rfl, rfl, rfl, trivial⟩, (Keeps.refl _ w), ?_, ?_⟩
    · omega
    · exact NoB.zero _ _
  rintro i ρ_3 w_1 ⟨hH_2, K0, hi, hno⟩ ih1
  obtain ⟨ρ₀, rfl⟩ := hH_2.ex
  clear hH_2
  refine Run.seq ?_
  refine Run.region ?_
  refine RL.val (x_ltI rfl rfl) ?_
  refine RL.nil ?_
  refine Run.seq ?_
  refine Run.cond rfl (fun hc9 => ?_) (fun hc9 => ?_)
  · try simp only [br] at hc9
    refine Run.skip ?_
    refine Run.seq ?_
    refine Run.block ?_
    refine Run.seq ?_
    refine Run.region ?_
    refine RL.val (x_moveI rfl) ?_
    refine RL.val (x_assignI rfl) ?_
    refine RL.nil ?_
    refine Run.seq ?_
    refine Run.region ?_
    refine RL.val (x_moveF rfl) ?_
    refine RL.val (x_moveSl rfl) ?_
    refine RL.val (x_moveI rfl) ?_
    obtain ⟨b_4, o_5, e, hx, ha_6, hc_7⟩ := hs.el (i := i) (by first | omega | (simp only [List.length_set]; omega))
    have hc_7_lt := hc_7.lt
    replace hc_7 := hc_7.ext K0
    refine RL.val (x_idxN Try.underlying31 ty46 rfl rfl ha_6 (by first | omega | (simp only [List.length_set]; omega))) ?_
    refine RL.val (x_ldV (v := .agg #[.int .i64 ((e).kind), .int .i64 ((e).frm), .int .i64 ((e).to), .int .i64 ((e).req), .string ((e).key), .slice (none) (0) (0), .slice (none) (0) (0), .slice (none) (0) (0), .int .i64 (0), .int .i64 ((e).part), .int .i64 (0), .int .i64 (0), .int .i64 (0), .int .i64 (0), .slice (none) (0) (0), .slice (none) (0) (0), .slice (none) (0) (0)]) (y := e) ty46 rfl hc_7 rfl) ?_
    refine RL.st rfl <| St1.callV (first := []) (vals := .agg #[.int .i64 ((e).kind), .int .i64 ((e).frm), .int .i64 ((e).to), .int .i64 ((e).req), .string ((e).key), .slice (none) (0) (0), .slice (none) (0) (0), .slice (none) (0) (0), .int .i64 (0), .int .i64 ((e).part), .int .i64 (0), .int .i64 (0), .int .i64 (0), .int .i64 (0), .slice (none) (0) (0), .slice (none) (0) (0), .slice (none) (0) (0)] :: caps) hen rfl rfl (hq e (mem_of_at hx) _ K0) ?_
    rintro _ w_10 ⟨rfl, K_11⟩
    replace hc_7 := hc_7.ext K_11
    replace K0 := K0.ext K_11
    refine RL.nil ?_
    refine Run.cond rfl (fun hc16 => ?_) (fun hc16 => ?_)
    · skip
      refine Run.seq ?_
      refine Run.region ?_
      refine RL.val (x_moveI rfl) ?_
      refine RL.val (x_assignI rfl) ?_
      refine RL.nil ?_
      refine Run.ret1 (v := .int .i64 (((i : Nat) : Int))) Try.func54 rfl rfl ?_
      exact ⟨_, rfl, by rw [findI_at hx hc16 hno], K0⟩
    · skip
      refine Run.skip ?_
      refine Run.inBlock ?_
      refine Run.region ?_
      refine RL.val (litI (c := ((i + 1 : Nat) : Int)) (x_add rfl rfl (by omega) (by omega)) rfl) ?_
      refine RL.val (x_moveI rfl) ?_
      refine RL.nil ?_
      refine ih1 (i + 1) _ _ ?_ (by omega)
      refine ⟨⟨rfl, rfl, rfl, rfl, trivial⟩, K0, ?_, ?_⟩
      · omega
      · exact hno.step hx hc16
  · try simp only [br] at hc9
    refine Run.exit rfl ?_
    refine Run.seq ?_
    refine Run.region ?_
    refine RL.val (x_assignI rfl) ?_
    refine RL.nil ?_
    refine Run.ret1 (v := .int .i64 (-1)) Try.func54 rfl rfl ?_
    exact ⟨_, rfl, by rw [findI_no hno (by omega)], K0⟩

set_option maxRecDepth 100000 in
set_option maxHeartbeats 4000000 in
theorem deleteFunc_msg (a : Option Addr) (xs : List HMsg) (c : Nat) (gf : FuncId) (caps : List Value) (q : HMsg → Bool) (hen : Enters Try.prog gf) (w : World) (ho : OwnSl w 46 a c xs) (hl : xs.length ≤ 4294967295) (hq : ∀ x ∈ xs, ∀ w', Keeps (own a) w w' → Calls Try.prog gf (Enc.val x :: caps).toArray w' (Ret fun v w'' => v = .bool (q x) ∧ Ext w' w'')) :
    Calls Try.prog 23 #[.slice (a) (xs.length) (c), .func (.func gf) #[] caps.toArray] w (Ret (fun v w' => v = .slice a (xs.filter (fun x => !q x)).length c ∧ OwnSl w' 46 a c (xs.filter (fun x => !q x)) ∧ Keeps (own a) w w')) := by
  have hcap := ho.le_cap
  refine calls_run (n := 42) Try.func23 rfl rfl rfl ?_
  refine Run.seq ?_
  refine Run.region ?_
  refine RL.val (x_assignSl rfl) ?_
  refine RL.nil ?_
  refine Run.seq ?_
  refine Run.region ?_
  refine RL.val (x_moveSl rfl) ?_
  refine RL.val (x_moveF rfl) ?_
  refine RL.st rfl <| St1.call (vals := [.slice (a) (xs.length) (c), .func (.func gf) #[] caps.toArray]) en54 rfl (indexFunc_msg _ _ _ _ _ q hen _ ho.sl (by omega) (fun x hx w' K' => hq x hx w' (K'.to))) ?_
  rintro _ w_1 ⟨rfl, K_2⟩
  replace ho := ho.ext K_2
  have K0 := (K_2 : Ext w _).to (S := (own a))
  refine RL.val (x_assignI rfl) ?_
  refine RL.nil ?_
  refine Run.seq ?_
  refine Run.seq ?_
  refine Run.region ?_
  refine RL.val (x_moveI rfl) ?_
  refine RL.val (x_eqI rfl rfl) ?_
  refine RL.nil ?_
  refine Run.cond rfl (fun hc12 => ?_) (fun hc12 => ?_)
  · try simp only [br] at hc12
    refine Run.seq ?_
    refine Run.region ?_
    refine RL.val (x_moveSl rfl) ?_
    refine RL.val (x_assignSl rfl) ?_
    refine RL.nil ?_
    refine Run.ret1 (v := .slice (a) (xs.length) (c)) Try.func23 rfl rfl ?_
    have hno := findI_none (p := q) (xs := xs) rfl (by omega)
    rw [keepF_none hno]
    exact ⟨_, rfl, rfl, ho, K0⟩
  · try simp only [br] at hc12
    obtain ⟨k, hk, hkl, hkp, hkn⟩ := findI_some (p := q) (xs := xs) rfl (by have := findI_lo q xs; omega)
    rw [hk]
    refine Run.skip ?_
    refine Run.seq ?_
    refine Run.seq ?_
    refine Run.region ?_
    refine RL.val (x_moveI rfl) ?_
    refine RL.val (litI (c := ((k + 1 : Nat) : Int)) (x_add rfl rfl (by omega) (by omega)) rfl) ?_
    refine RL.val (x_assignI rfl) ?_
    refine RL.nil ?_
    refine Run.block ?_
    refine Run.loop (ι := Nat) (fun j ρ' w' => ∃ ys : List HMsg, Holds ρ' [(0, .slice (a) (xs.length) (c)), (1, .func (.func gf) #[] caps.toArray), (5, .int .i64 ((((keepF q xs j).length : Nat) : Int))), (6, .int .i64 (((j : Nat) : Int)))] ∧ Keeps (own a) w w' ∧ (OwnSl w' 46 a c (ys)) ∧ (∀ q_, own a q_ → q_ < w.heap.size → (own a) q_) ∧ (j ≤ xs.length) ∧ (ys.take (keepF q xs j).length = (keepF q xs j)) ∧ (ys.drop j = xs.drop j) ∧ (ys.length = xs.length) ∧ ((keepF q xs j).length < j)) (fun j => xs.length - j) (k + 1) ?_ ?_
    · rw [keepF_first hkl hkp hkn, List.length_take, Nat.min_eq_left (Nat.le_of_lt hkl)]
      refine ⟨_, ⟨rfl, rfl, rfl, rfl, trivial⟩, K0, ho, (fun x h _ => h), ?_, ?_, ?_, ?_, ?_⟩
      · omega
      · rfl
      · rfl
      · rfl
      · omega
    clear ho
    clear K0
    rintro j ρ_7 w_3 ⟨ys, hH_4, K0, ho_5, pr_6, hj, h1, h2, h3, h4⟩ ih1
    obtain ⟨ρ₀, rfl⟩ := hH_4.ex
    clear hH_4
    refine Run.seq ?_
    refine Run.seq ?_
    have hkl2 := keepF_len q xs j
    have hcap2 : ys.length ≤ c := by omega
    refine Run.region ?_
    refine RL.val (x_moveI rfl) ?_
    refine RL.val (x_moveSl rfl) ?_
    refine RL.val (x_lenSl Try.underlying31 rfl) ?_
    refine RL.val (x_ltI rfl rfl) ?_
    refine RL.nil ?_
    refine Run.cond rfl (fun hc19 => ?_) (fun hc19 => ?_)
    · try simp only [br] at hc19
      refine Run.skip ?_
      refine Run.seq ?_
      refine Run.block ?_
      refine Run.seq ?_
      refine Run.region ?_
      refine RL.val (x_moveSl rfl) ?_
      refine RL.val (x_moveI rfl) ?_
      obtain ⟨b_8, o_9, x, hx, ha_10, hc_11⟩ := ho_5.sl.el (i := j) (by first | omega | (simp only [List.length_set]; omega))
      refine RL.val (x_idxN Try.underlying31 ty46 rfl rfl ha_10 (by first | omega | (simp only [List.length_set]; omega))) ?_
      refine RL.val (x_ldV (v := .agg #[.int .i64 ((x).kind), .int .i64 ((x).frm), .int .i64 ((x).to), .int .i64 ((x).req), .string ((x).key), .slice (none) (0) (0), .slice (none) (0) (0), .slice (none) (0) (0), .int .i64 (0), .int .i64 ((x).part), .int .i64 (0), .int .i64 (0), .int .i64 (0), .int .i64 (0), .slice (none) (0) (0), .slice (none) (0) (0), .slice (none) (0) (0)]) (y := x) ty46 rfl hc_11 rfl) ?_
      refine RL.st rfl <| St1.alloc ty46 ?_
      intro b_14 w_15 hl_18 hb_17 K_16
      replace hb_17 : Blk w_15 b_14 [.int .i64 (0), .int .i64 (0), .int .i64 (0), .int .i64 (0), .string (⟨#[]⟩), .slice (none) (0) (0), .slice (none) (0) (0), .slice (none) (0) (0), .int .i64 (0), .int .i64 (0), .int .i64 (0), .int .i64 (0), .int .i64 (0), .int .i64 (0), .slice (none) (0) (0), .slice (none) (0) (0), .slice (none) (0) (0)] 46 := hb_17
      have ne_19 : b_8 < b_14 := Nat.lt_of_lt_of_le hc_11.lt hl_18
      have pr_20 : ¬ own a b_14 := fun h => absurd (ho_5.own_lt _ h) (by omega)
      have : w.heap.size ≤ b_14 := Nat.le_trans K0.size hl_18
      clear hl_18
      replace ho_5 := ho_5.ext K_16
      replace hc_11 := hc_11.ext K_16
      replace K0 := K0.ext K_16
      refine RL.st rfl <| St1.store (v := .agg #[.int .i64 ((x).kind), .int .i64 ((x).frm), .int .i64 ((x).to), .int .i64 ((x).req), .string ((x).key), .slice (none) (0) (0), .slice (none) (0) (0), .slice (none) (0) (0), .int .i64 (0), .int .i64 ((x).part), .int .i64 (0), .int .i64 (0), .int .i64 (0), .int .i64 (0), .slice (none) (0) (0), .slice (none) (0) (0), .slice (none) (0) (0)]) ty46 rfl rfl rfl (by simp [Value.cells, Value.oneCell']) hb_17 (by simp) ?_
      intro w_21 hb_17_ K_22
      have hb_17' : Blk w_21 b_14 [.int .i64 ((x).kind), .int .i64 ((x).frm), .int .i64 ((x).to), .int .i64 ((x).req), .string ((x).key), .slice (none) (0) (0), .slice (none) (0) (0), .slice (none) (0) (0), .int .i64 (0), .int .i64 ((x).part), .int .i64 (0), .int .i64 (0), .int .i64 (0), .int .i64 (0), .slice (none) (0) (0), .slice (none) (0) (0), .slice (none) (0) (0)] 46 := hb_17_
      clear hb_17_
      replace ho_5 := ho_5.keepO K_22 (fun q_ hq_ eq_ => pr_20 (by simp only [one] at eq_; rw [← eq_]; exact hq_))
      replace hc_11 := hc_11.keep K_22 (fun e => pr_20 (by simp only [one] at e; rw [← e]; exact (own_sub _) _ ha_10))
      replace K0 := K0.trans K_22 (fun x hlt hx => absurd hlt (by simp only [one] at hx; omega))
      replace hb_17 := hb_17'
      clear hb_17'
      refine RL.nil ?_
      have hxx : xs[j]? = some x := by rw [← drop_get h2]; exact hx
      refine Run.seq ?_
      refine Run.region ?_
      refine RL.val (x_moveF rfl) ?_
      refine RL.val (x_lds (cs := #[.int .i64 ((x).kind), .int .i64 ((x).frm), .int .i64 ((x).to), .int .i64 ((x).req), .string ((x).key), .slice (none) (0) (0), .slice (none) (0) (0), .slice (none) (0) (0), .int .i64 (0), .int .i64 ((x).part), .int .i64 (0), .int .i64 (0), .int .i64 (0), .int .i64 (0), .slice (none) (0) (0), .slice (none) (0) (0), .slice (none) (0) (0)]) ty46 rfl rfl (hb_17.cl.drop 0 17)) ?_
      refine RL.st rfl <| St1.callV (first := []) (vals := .agg #[.int .i64 ((x).kind), .int .i64 ((x).frm), .int .i64 ((x).to), .int .i64 ((x).req), .string ((x).key), .slice (none) (0) (0), .slice (none) (0) (0), .slice (none) (0) (0), .int .i64 (0), .int .i64 ((x).part), .int .i64 (0), .int .i64 (0), .int .i64 (0), .int .i64 (0), .slice (none) (0) (0), .slice (none) (0) (0), .slice (none) (0) (0)] :: caps) hen rfl rfl (hq x (mem_of_at hxx) _ K0) ?_
      rintro _ w_23 ⟨rfl, K_24⟩
      replace ho_5 := ho_5.ext K_24
      replace hb_17 := hb_17.ext K_24
      replace K0 := K0.ext K_24
      refine RL.val (x_not rfl) ?_
      refine RL.nil ?_
      refine Run.cond rfl (fun hc29 => ?_) (fun hc29 => ?_)
      · try simp only [br] at hc29
        refine Run.seq ?_
        refine Run.region ?_
        refine RL.val (x_moveSl rfl) ?_
        refine RL.val (x_moveI rfl) ?_
        refine RL.val (x_lds (cs := #[.int .i64 ((x).kind), .int .i64 ((x).frm), .int .i64 ((x).to), .int .i64 ((x).req), .string ((x).key), .slice (none) (0) (0), .slice (none) (0) (0), .slice (none) (0) (0), .int .i64 (0), .int .i64 ((x).part), .int .i64 (0), .int .i64 (0), .int .i64 (0), .int .i64 (0), .slice (none) (0) (0), .slice (none) (0) (0), .slice (none) (0) (0)]) ty46 rfl rfl (hb_17.cl.drop 0 17)) ?_
        obtain ⟨b_25, o_26, x_29, hx_30, ha_27, hc_28⟩ := ho_5.sl.el (i := (keepF q xs j).length) (by omega)
        refine RL.val (x_idxN Try.underlying31 ty46 rfl rfl ha_27 (by omega)) ?_
        refine RL.st rfl <| St1.storeEl (v := .agg #[.int .i64 ((x).kind), .int .i64 ((x).frm), .int .i64 ((x).to), .int .i64 ((x).req), .string ((x).key), .slice (none) (0) (0), .slice (none) (0) (0), .slice (none) (0) (0), .int .i64 (0), .int .i64 ((x).part), .int .i64 (0), .int .i64 (0), .int .i64 (0), .int .i64 (0), .slice (none) (0) (0), .slice (none) (0) (0), .slice (none) (0) (0)]) (off := 0) (i := (keepF q xs j).length) x ty46 rfl rfl rfl (by simp [Value.cells, Value.oneCell']) ho_5 ha_27 hx_30 rfl (by decide) rfl ?_
        intro w_31 ho_33 K_32
        clear hc_28
        replace hb_17 := hb_17.keep K_32 pr_20
        replace K0 := K0.trans K_32 (fun x hlt hx => pr_6 x hx hlt)
        replace ho_5 := ho_33
        clear ho_33
        refine RL.nil ?_
        refine Run.region ?_
        refine RL.val (x_moveI rfl) ?_
        refine RL.val (litI (c := ((((keepF q xs j).length) + 1 : Nat) : Int)) (x_add rfl rfl (by omega) (by omega)) rfl) ?_
        refine RL.val (x_assignI rfl) ?_
        refine RL.nil ?_
        refine Run.inBlock ?_
        refine Run.region ?_
        refine RL.val (x_moveI rfl) ?_
        refine RL.val (litI (c := ((j + 1 : Nat) : Int)) (x_add rfl rfl (by omega) (by omega)) rfl) ?_
        refine RL.val (x_assignI rfl) ?_
        refine RL.nil ?_
        have e := keepF_succ (q := q) hxx
        rw [if_neg (by simp [hc29])] at e
        have e2 : (keepF q xs (j + 1)).length = (keepF q xs j).length + 1 := by rw [e]; simp
        refine ih1 (j + 1) _ _ ?_ (by omega)
        rw [e2, e]
        refine ⟨_, ⟨rfl, rfl, rfl, rfl, trivial⟩, K0, ho_5, pr_6, ?_, ?_, ?_, ?_, ?_⟩
        · omega
        · rw [set_take_succ (by omega), h1]
        · rw [set_drop_gt (by omega)]; exact drop_succ_eq h2
        · rw [List.length_set]; exact h3
        · omega
      · try simp only [br] at hc29
        refine Run.skip ?_
        refine Run.inBlock ?_
        refine Run.region ?_
        refine RL.val (x_moveI rfl) ?_
        refine RL.val (litI (c := ((j + 1 : Nat) : Int)) (x_add rfl rfl (by omega) (by omega)) rfl) ?_
        refine RL.val (x_assignI rfl) ?_
        refine RL.nil ?_
        have e := keepF_succ (q := q) hxx
        rw [if_pos hc29] at e
        refine ih1 (j + 1) _ _ ?_ (by omega)
        rw [e]
        refine ⟨_, ⟨rfl, rfl, rfl, rfl, trivial⟩, K0, ho_5, pr_6, ?_, ?_, ?_, ?_, ?_⟩
        · omega
        · exact h1
        · exact drop_succ_eq h2
        · exact h3
        · omega
    · try simp only [br] at hc19
      refine Run.exit rfl ?_
      refine Run.seq ?_
      refine Run.region ?_
      refine RL.val (x_moveSl rfl) ?_
      refine RL.val (x_moveI rfl) ?_
      refine RL.val (x_sliceFrom (xs := ys) Try.underlying31 ty46 (slLen rfl h3) rfl (by omega)) ?_
      have ht_37 := ho_5.take ((keepF q xs j).length)
      have ht_37_l : (ys.take ((keepF q xs j).length)).length = (keepF q xs j).length := by rw [List.length_take]; omega
      refine RL.st rfl <| St1.clearTail (xs := ys.take ((keepF q xs j).length)) Try.underlying31 ty46 rfl (by simp [Value.cells, Value.oneCell']) (by rw [ht_37_l]; exact rfl) ht_37 (by rw [ht_37_l]; simp only [List.length_drop]; omega) ?_
      intro w_34 ho_36 K_35
      replace K0 := K0.trans K_35 (fun x hlt hx => pr_6 x hx hlt)
      replace ho_5 := ho_36
      clear ho_36 ht_37
      refine RL.nil ?_
      refine Run.seq ?_
      refine Run.region ?_
      refine RL.val (x_moveSl rfl) ?_
      refine RL.val (x_moveI rfl) ?_
      refine RL.val (litSl (m' := (ys.take ((keepF q xs j).length)).length) (x_sliceTo Try.underlying31 ty46 rfl rfl (by omega)) (by rw [List.length_take]; omega)) ?_
      refine RL.val (x_assignSl rfl) ?_
      refine RL.nil ?_
      refine Run.ret1 (v := .slice (a) ((ys.take ((keepF q xs j).length)).length) (c)) Try.func23 rfl rfl ?_
      have hjl : j = xs.length := by omega
      subst hjl
      rw [h1, keepF_all] at ho_5 ⊢
      exact ⟨_, rfl, rfl, ho_5, K0⟩

set_option maxRecDepth 100000 in
set_option maxHeartbeats 4000000 in
theorem delete_msg (al : Option Addr) (l : List HMsg) (cl k : Nat) (w : World) (ho : OwnSl w 46 al cl l) (hk : k < l.length) (hl : l.length ≤ 4294967295) :
    Calls Try.prog 26 #[.slice (al) (l.length) (cl), .int .i64 (((k : Nat) : Int)), .int .i64 (((k + 1 : Nat) : Int))] w (Ret (fun v w' => v = .slice al (l.take k ++ l.drop (k + 1)).length cl ∧ OwnSl w' 46 al cl (l.take k ++ l.drop (k + 1)) ∧ Keeps (own al) w w')) := by
  have hcap := ho.le_cap
  refine calls_run (n := 33) Try.func26 rfl rfl rfl ?_
  refine Run.seq ?_
  refine Run.region ?_
  refine RL.val (x_assignSl rfl) ?_
  refine RL.nil ?_
  refine Run.seq ?_
  refine Run.region ?_
  refine RL.val (x_moveSl rfl) ?_
  refine RL.val (x_moveI rfl) ?_
  refine RL.val (x_moveI rfl) ?_
  refine RL.val (x_moveSl rfl) ?_
  refine RL.val (x_lenSl Try.underlying31 rfl) ?_
  refine RL.val (x_slice3 Try.underlying31 ty46 rfl rfl rfl rfl (by omega) (by omega) (by omega)) ?_
  refine RL.nil ?_
  refine Run.seq ?_
  refine Run.seq ?_
  refine Run.region ?_
  refine RL.val (x_moveI rfl) ?_
  refine RL.val (x_moveI rfl) ?_
  refine RL.val (x_eqI rfl rfl) ?_
  refine RL.nil ?_
  refine Run.cond rfl (fun hc16 => ?_) (fun hc16 => ?_)
  · try simp only [br] at hc16
    exact absurd hc16 (by omega)
  · try simp only [br] at hc16
    refine Run.skip ?_
    refine Run.seq ?_
    refine Run.region ?_
    refine RL.val (x_moveSl rfl) ?_
    refine RL.val (x_lenSl Try.underlying31 rfl) ?_
    refine RL.val (x_assignI rfl) ?_
    refine RL.nil ?_
    refine Run.seq ?_
    refine Run.drawT [] (m := 8) (by kernel_rfl) rfl ?_
    intro w_1 K_2
    replace ho := ho.ext K_2
    have K0 := (K_2 : Ext w _).to (S := (own al))
    refine ⟨fun w' => True, ?_⟩
    refine RT.takeP (v := .slice (al) (l.length) (cl)) 0 rfl (by kernel_rfl) (.inr trivial) (fun _ => (x_moveSl rfl)) ?_
    refine RT.takeP (v := .int .i64 (((k : Nat) : Int))) 1 rfl (by kernel_rfl) (.inr trivial) (fun _ => (x_moveI rfl)) ?_
    refine RT.takeP (v := .slice (al) (k) (cl)) 2 rfl (by kernel_rfl) (.inr trivial) (fun _ => (x_sliceTo Try.underlying31 ty46 rfl rfl (by omega))) ?_
    refine RT.takeP (v := .slice (al) (l.length) (cl)) 3 rfl (by kernel_rfl) (.inr trivial) (fun _ => (x_moveSl rfl)) ?_
    refine RT.takeP (v := .int .i64 (((k + 1 : Nat) : Int))) 4 rfl (by kernel_rfl) (.inr trivial) (fun _ => (x_moveI rfl)) ?_
    refine RT.takeP (v := .slice (advA al cl (k + 1) 17) ((l.drop (k + 1)).length) (cl - (k + 1))) 5 rfl (by kernel_rfl) (.inr trivial) (fun _ => (x_sliceFrom (xs := l) Try.underlying31 ty46 rfl rfl (by omega))) ?_
    have ho_3 := ho.take k
    have hsx_4 := (ho.sl.from (k + 1) cl (ho.le_cap))
    refine RT.st 6 rfl (by kernel_rfl) rfl <| St1.append (xs := l.take k) (ys := l.drop (k + 1)) Try.underlying31 ty46 rfl (slLen rfl (List.length_take_of_le (by omega))) rfl ho_3 hsx_4 (by simp only [List.length_append, List.length_take, List.length_drop]; omega) (by decide) ?_
    intro a_5 c_6 w_7 ho_8 K_9 hm_10 hrm_11
    have pg_12 : ∀ q_, own a_5 q_ → q_ < w.heap.size → (own al) q_ := hm_10.inS (fun x h _ => h) K0.size
    replace K0 := K0.trans K_9 (fun x hlt hx => (fun x h _ => h) x hx hlt)
    clear hm_10
    have e1 := (hrm_11 (by simp only [List.length_take, List.length_drop]; omega)).1.symm
    have e2 := (hrm_11 (by simp only [List.length_take, List.length_drop]; omega)).2.symm
    clear hrm_11
    subst e1; subst e2
    refine ⟨.inr trivial, ?_⟩
    refine RT.takeP (v := .slice (al) (((l.take k) ++ l.drop (k + 1)).length) (cl)) 7 rfl (by kernel_rfl) (.inr trivial) (fun _ => (x_assignSl rfl)) ?_
    refine RT.done (by kernel_rfl) ?_
    refine Run.seq ?_
    refine Run.region ?_
    refine RL.val (x_moveSl rfl) ?_
    refine RL.val (x_moveSl rfl) ?_
    refine RL.val (x_lenSl Try.underlying31 rfl) ?_
    refine RL.val (x_moveI rfl) ?_
    refine RL.val (x_sliceFT Try.underlying31 ty46 rfl rfl rfl (by simp only [List.length_append, List.length_take, List.length_drop]; omega) (by omega)) ?_
    refine RL.st rfl <| St1.clearTail (xs := (l.take k) ++ l.drop (k + 1)) Try.underlying31 ty46 rfl (by simp [Value.cells, Value.oneCell']) rfl ho_8 (by simp only [List.length_append, List.length_take, List.length_drop]; omega) ?_
    intro w_13 ho_15 K_14
    replace K0 := K0.trans K_14 (fun x hlt hx => pg_12 x hx hlt)
    replace ho_8 := ho_15
    clear ho_15
    refine RL.nil ?_
    refine Run.seq ?_
    refine Run.region ?_
    refine RL.val (x_moveSl rfl) ?_
    refine RL.val (x_assignSl rfl) ?_
    refine RL.nil ?_
    refine Run.ret1 (v := .slice (al) (((l.take k) ++ l.drop (k + 1)).length) (cl)) Try.func26 rfl rfl ?_
    exact ⟨_, rfl, rfl, ho_8, K0⟩

set_option maxRecDepth 100000 in
set_option maxHeartbeats 4000000 in
theorem of1_ (b : Nat) (part : Int) (x : HMsg) (w : World) (hb : Blk w b [.int .i64 part] 3) :
    Calls Try.prog 24 #[.agg #[.int .i64 ((x).kind), .int .i64 ((x).frm), .int .i64 ((x).to), .int .i64 ((x).req), .string ((x).key), .slice (none) (0) (0), .slice (none) (0) (0), .slice (none) (0) (0), .int .i64 (0), .int .i64 ((x).part), .int .i64 (0), .int .i64 (0), .int .i64 (0), .int .i64 (0), .slice (none) (0) (0), .slice (none) (0) (0), .slice (none) (0) (0)], .pointer (some ⟨b, 0, none⟩)] w (Ret (fun v w' => v = .bool (x.part != part) ∧ Ext w w')) := by
  refine calls_run (n := 8) Try.func24 rfl rfl rfl ?_
  refine Run.seq ?_
  refine Run.region ?_
  refine RL.st rfl <| St1.box (v := .agg #[.int .i64 ((x).kind), .int .i64 ((x).frm), .int .i64 ((x).to), .int .i64 ((x).req), .string ((x).key), .slice (none) (0) (0), .slice (none) (0) (0), .slice (none) (0) (0), .int .i64 (0), .int .i64 ((x).part), .int .i64 (0), .int .i64 (0), .int .i64 (0), .int .i64 (0), .slice (none) (0) (0), .slice (none) (0) (0), .slice (none) (0) (0)]) rfl ?_
  intro b_1 w_2 hl_5 hb_4 K_3
  replace hb_4 : Blk w_2 b_1 [.int .i64 ((x).kind), .int .i64 ((x).frm), .int .i64 ((x).to), .int .i64 ((x).req), .string ((x).key), .slice (none) (0) (0), .slice (none) (0) (0), .slice (none) (0) (0), .int .i64 (0), .int .i64 ((x).part), .int .i64 (0), .int .i64 (0), .int .i64 (0), .int .i64 (0), .slice (none) (0) (0), .slice (none) (0) (0), .slice (none) (0) (0)] 46 := hb_4
  have ne_6 : b < b_1 := Nat.lt_of_lt_of_le hb.lt hl_5
  have : w.heap.size ≤ b_1 := hl_5
  clear hl_5
  replace hb := hb.ext K_3
  have K0 := (K_3 : Ext w _)
  refine RL.val (x_assignB rfl) ?_
  refine RL.nil ?_
  refine Run.seq ?_
  refine Run.region ?_
  refine RL.val (x_fld (o' := 9) Try.underlying46 rfl ty3 rfl rfl rfl) ?_
  refine RL.val (x_ld (v := .int .i64 ((x).part)) ty3 rfl rfl (hb_4.cl.field (i := 9) rfl)) ?_
  refine RL.val (x_ld (v := .int .i64 (part)) ty3 rfl rfl (hb.cl.field (i := 0) rfl)) ?_
  refine RL.val (x_neI rfl rfl) ?_
  refine RL.val (x_assignB rfl) ?_
  refine RL.nil ?_
  refine Run.ret1 (v := .bool (((x).part) != part)) Try.func24 rfl rfl ?_
  exact ⟨_, rfl, rfl, K0⟩

set_option maxRecDepth 100000 in
set_option maxHeartbeats 4000000 in
theorem of_ (a : Option Addr) (xs : List HMsg) (c : Nat) (part : Int) (w : World) (ho : OwnSl w 46 a c xs) (hl : xs.length ≤ 4294967295) :
    Calls Try.prog 22 #[.slice (a) (xs.length) (c), .int .i64 (part)] w (Ret (fun v w' => v = .slice a (xs.filter (fun x => !(x.part != part))).length c ∧ OwnSl w' 46 a c (xs.filter (fun x => !(x.part != part))) ∧ Keeps (own a) w w')) := by
  refine calls_run (n := 8) Try.func22 rfl rfl rfl ?_
  refine Run.seq ?_
  refine Run.region ?_
  refine RL.st rfl <| St1.box (v := .int .i64 (part)) rfl ?_
  intro b_1 w_2 hl_5 hb_4 K_3
  replace hb_4 : Blk w_2 b_1 [.int .i64 (part)] 3 := hb_4
  have pr_6 : ¬ own a b_1 := fun h => absurd (ho.own_lt _ h) (by omega)
  have : w.heap.size ≤ b_1 := hl_5
  clear hl_5
  replace ho := ho.ext K_3
  have K0 := (K_3 : Ext w _).to (S := (own a))
  refine RL.val (x_assignSl rfl) ?_
  refine RL.nil ?_
  refine Run.seq ?_
  refine Run.region ?_
  refine RL.val (x_moveSl rfl) ?_
  refine RL.val (x_mkFunc (a := []) (c := [.pointer (some ⟨b_1, 0, none⟩)]) rfl rfl) ?_
  refine RL.st rfl <| St1.call (vals := [.slice (a) (xs.length) (c), .func (.func 24) #[] #[.pointer (some ⟨b_1, 0, none⟩)]]) en23 rfl (deleteFunc_msg _ _ _ 24 _ (fun m => m.part != part) en24 _ ho (by omega) (fun x _ w' K' => of1_ _ part x w' (hb_4.keep K' pr_6))) ?_
  rintro _ w_7 ⟨rfl, ho_8, K_9⟩
  replace hb_4 := hb_4.keep K_9 pr_6
  replace K0 := K0.trans K_9 (fun x hlt hx => (fun x h _ => h) x hx hlt)
  replace ho := ho_8
  clear ho_8
  refine RL.val (x_assignSl rfl) ?_
  refine RL.nil ?_
  refine Run.ret1 (v := .slice (a) ((xs.filter (fun x => !(fun m => m.part != part) x)).length) (c)) Try.func22 rfl rfl ?_
  exact ⟨_, rfl, rfl, ho, K0⟩

theorem of12 {w : World} {a : Option Addr} {c : Nat} {T1 T2 : List HMsg} {ks rest ks2 rest2 : List ByteArray} {ys zs : List Item} (h1 : QInv 1 ks rest ys T1) (h2 : QInv 2 ks2 rest2 zs T2) (ho : OwnSl w 46 a c (T1 ++ T2)) (hl : (T1 ++ T2).length ≤ 4294967295) :
    Calls Try.prog 22 #[.slice a (T1 ++ T2).length c, .int .i64 1] w (Ret fun v w' => v = .slice a T1.length c ∧ OwnSl w' 46 a c T1 ∧ Keeps (own a) w w') ∧ Calls Try.prog 22 #[.slice a (T1 ++ T2).length c, .int .i64 2] w (Ret fun v w' => v = .slice a T2.length c ∧ OwnSl w' 46 a c T2 ∧ Keeps (own a) w w') := by
  have e := of_one h1 h2
  have q1 := of_ a (T1 ++ T2) c 1 w ho hl
  have q2 := of_ a (T1 ++ T2) c 2 w ho hl
  rw [e.1] at q1
  rw [e.2] at q2
  exact ⟨q1, q2⟩

set_option maxRecDepth 100000 in
set_option maxHeartbeats 4000000 in
theorem law_apart (ak : Option Addr) (keys : List ByteArray) (ck : Nat) (am : Option Addr) (more : List ByteArray) (cm : Nat) (aa : Option Addr) (acks : List U64) (ca : Nat) (w : World) (hka : SlOf w ak keys) (hkyl : keys.length ≤ 1048576) (hks : ∀ k ∈ keys, k.size ≤ 4294967295) (hma : SlOf w am more) (hmyl : more.length ≤ 1048576) (hms : ∀ k ∈ more, k.size ≤ 4294967295) (haa : SlOf w aa acks) (hal0 : acks.length ≤ 1048576) (hU : ∀ u ∈ acks, 0 ≤ u.v ∧ u.v ≤ 18446744073709551615) :
    Calls Try.prog 6 #[.slice (ak) (keys.length) (ck), .slice (am) (more.length) (cm), .slice (aa) (acks.length) (ca)] w (Ret (fun v w' => v = .bool true ∧ Ext w w')) := by
  refine calls_run (n := 191) Try.func6 rfl rfl rfl ?_
  refine Run.seq ?_
  refine Run.region ?_
  refine RL.val (x_assignB rfl) ?_
  refine RL.nil ?_
  refine Run.seq ?_
  refine Run.region ?_
  refine RL.val (x_moveSl rfl) ?_
  refine RL.st rfl <| St1.call (vals := [.slice (ak) (keys.length) (ck)]) en9 rfl (fine_ _ keys _ _ hka (by first | decide | assumption | omega) hks) ?_
  rintro _ w_3 ⟨a_1, c_2, rfl, ho_4, hg_5, K_6⟩
  have pg_7 : ∀ q_, own a_1 q_ → w.heap.size ≤ q_ := fun q_ h => Nat.le_trans (Nat.le_refl _) (hg_5 q_ h)
  clear hg_5
  have K0 := (K_6 : Ext w _)
  refine RL.val (x_assignSl rfl) ?_
  refine RL.nil ?_
  have hfl := fine_len keys
  refine Run.seq ?_
  refine Run.region ?_
  refine RL.st rfl <| St1.call (vals := [.int .i64 (0)]) en10 rfl (newD 0 _) ?_
  rintro _ w_10 (⟨hnr, rfl, K_13⟩ | ⟨hrm, s_8, F_9, rfl, hS_11, hg_12, K_13⟩)
  · exact absurd (by decide) hnr
  · have pr_14 : ∀ q_, F_9 q_ → ¬ own a_1 q_ := apartNew hg_12 ho_4.own_lt
    have pg_15 : ∀ q_, F_9 q_ → w.heap.size ≤ q_ := fun q_ h => Nat.le_trans K0.size (hg_12 q_ h)
    clear hg_12
    replace ho_4 := ho_4.ext K_13
    replace K0 := K0.ext K_13
    refine RL.val (x_moveT rfl) ?_
    refine RL.val (x_extract rfl rfl) ?_
    refine RL.val (x_extract rfl rfl) ?_
    refine RL.val (x_assignP rfl) ?_
    refine RL.val (x_assignI rfl) ?_
    refine RL.nil ?_
    refine Run.seq ?_
    refine Run.region ?_
    refine RL.st rfl <| St1.call (vals := [.int .i64 (0)]) en10 rfl (newD 0 _) ?_
    rintro _ w_18 (⟨hnr, rfl, K_21⟩ | ⟨hrm, s_16, F_17, rfl, hS_19, hg_20, K_21⟩)
    · exact absurd (by decide) hnr
    · have pr_22 : ∀ q_, F_17 q_ → ¬ own a_1 q_ := apartNew hg_20 ho_4.own_lt
      have pr_23 : ∀ q_, F_17 q_ → ¬ F_9 q_ := apartNew hg_20 hS_11.own_lt
      have pg_24 : ∀ q_, F_17 q_ → w.heap.size ≤ q_ := fun q_ h => Nat.le_trans K0.size (hg_20 q_ h)
      clear hg_20
      replace ho_4 := ho_4.ext K_21
      replace hS_11 := hS_11.ext K_21
      replace K0 := K0.ext K_21
      refine RL.val (x_moveT rfl) ?_
      refine RL.val (x_extract rfl rfl) ?_
      refine RL.val (x_extract rfl rfl) ?_
      refine RL.val (x_assignP rfl) ?_
      refine RL.val (x_assignI rfl) ?_
      refine RL.nil ?_
      refine Run.seq ?_
      refine Run.seq ?_
      refine Run.region ?_
      refine RL.val (x_moveI rfl) ?_
      refine RL.val (litF (x_neI rfl rfl) (by decide)) ?_
      refine RL.val (x_moveB rfl) ?_
      refine RL.gst (wantedF1 rfl rfl rfl rfl) <| St1.val (x_moveI rfl) ?_
      refine RL.gst (wantedF1 rfl rfl rfl rfl) <| St1.val (litF (x_neI rfl rfl) (by decide)) ?_
      refine RL.val (x_orF rfl rfl rfl) ?_
      refine RL.val (x_moveB rfl) ?_
      refine RL.gst (wantedF1 rfl rfl rfl rfl) <| St1.val (x_moveP rfl) ?_
      refine RL.gst (wantedF1 rfl rfl rfl rfl) <| St1.val (litF (x_ptrNil Try.underlying24 rfl rfl) rfl) ?_
      refine RL.val (x_orF rfl rfl rfl) ?_
      refine RL.val (x_moveB rfl) ?_
      refine RL.gst (wantedF1 rfl rfl rfl rfl) <| St1.val (x_moveP rfl) ?_
      refine RL.gst (wantedF1 rfl rfl rfl rfl) <| St1.val (litF (x_ptrNil Try.underlying24 rfl rfl) rfl) ?_
      refine RL.val (x_orF rfl rfl rfl) ?_
      refine RL.val (x_moveB rfl) ?_
      refine RL.gst (wantedF1 rfl rfl rfl rfl) <| St1.val (x_moveP rfl) ?_
      refine RL.gst (wantedF1 rfl rfl rfl rfl) <| St1.val (x_moveSl rfl) ?_
      refine RL.gst (wantedF1 rfl rfl rfl rfl) <| St1.call (vals := [.slice (a_1) ((fineL keys).length) (c_2)]) en12 rfl (clone_str _ _ _ _ ho_4.sl (by omega)) ?_
      rintro _ w_27 ⟨a_25, c_26, rfl, ho_28, hg_29, K_30⟩
      have pr_31 : ∀ q_, own a_25 q_ → ¬ own a_1 q_ := apartNew hg_29 ho_4.own_lt
      have pr_32 : ∀ q_, own a_25 q_ → ¬ F_9 q_ := apartNew hg_29 hS_11.own_lt
      have pr_33 : ∀ q_, own a_25 q_ → ¬ F_17 q_ := apartNew hg_29 hS_19.own_lt
      have pg_34 : ∀ q_, own a_25 q_ → w.heap.size ≤ q_ := fun q_ h => Nat.le_trans K0.size (hg_29 q_ h)
      clear hg_29
      replace ho_4 := ho_4.ext K_30
      replace hS_11 := hS_11.ext K_30
      replace hS_19 := hS_19.ext K_30
      replace K0 := K0.ext K_30
      refine RL.gst (wantedF1 rfl rfl rfl rfl) <| St1.call (vals := [.pointer (some ⟨s_8, 0, none⟩), .int .i64 (1), .int .i64 (1), .slice (a_25) ((fineL keys).length) (c_26)]) en11 rfl (ap_begin (L := (fineL keys)) hS_11 (fine_rises keys) (fine_any keys) _ _ ho_28.sl (fun x_ hx_ => pr_32 _ ⟨x_, hx_, rfl⟩) hfl) ?_
      rintro _ w_36 ⟨F_35, rfl, hS_37, hm_38, K_39⟩
      have pr_40 : ∀ q_, F_35 q_ → ¬ own a_1 q_ := hm_38.apart pr_14 ho_4.own_lt
      have pr_41 : ∀ q_, F_35 q_ → ¬ F_17 q_ := hm_38.apart (fun q_ h1 h2 => pr_23 q_ h2 h1) hS_19.own_lt
      have pr_42 : ∀ q_, F_35 q_ → ¬ own a_25 q_ := hm_38.apart (fun q_ h1 h2 => pr_32 q_ h2 h1) ho_28.own_lt
      have pg_43 : ∀ q_, F_35 q_ → w.heap.size ≤ q_ := hm_38.ge pg_15 K0.size
      replace ho_4 := ho_4.keepO K_39 (fun q_ h1 h2 => pr_14 q_ h2 h1)
      replace hS_19 := hS_19.keepO K_39 pr_23
      replace ho_28 := ho_28.keepO K_39 pr_32
      replace K0 := K0.new K_39 pg_15
      clear hm_38
      refine RL.gst (wantedF1 rfl rfl rfl rfl) <| St1.val (litF (x_neI rfl rfl) (by decide)) ?_
      refine RL.val (x_orF rfl rfl rfl) ?_
      refine RL.val (x_moveB rfl) ?_
      refine RL.gst (wantedF1 rfl rfl rfl rfl) <| St1.val (x_moveP rfl) ?_
      refine RL.gst (wantedF1 rfl rfl rfl rfl) <| St1.val (x_moveSl rfl) ?_
      refine RL.gst (wantedF1 rfl rfl rfl rfl) <| St1.call (vals := [.slice (a_1) ((fineL keys).length) (c_2)]) en12 rfl (clone_str _ _ _ _ ho_4.sl (by omega)) ?_
      rintro _ w_46 ⟨a_44, c_45, rfl, ho_47, hg_48, K_49⟩
      have pr_50 : ∀ q_, own a_44 q_ → ¬ own a_1 q_ := apartNew hg_48 ho_4.own_lt
      have pr_51 : ∀ q_, own a_44 q_ → ¬ F_17 q_ := apartNew hg_48 hS_19.own_lt
      have pr_52 : ∀ q_, own a_44 q_ → ¬ own a_25 q_ := apartNew hg_48 ho_28.own_lt
      have pr_53 : ∀ q_, own a_44 q_ → ¬ F_35 q_ := apartNew hg_48 hS_37.own_lt
      have pg_54 : ∀ q_, own a_44 q_ → w.heap.size ≤ q_ := fun q_ h => Nat.le_trans K0.size (hg_48 q_ h)
      clear hg_48
      replace ho_4 := ho_4.ext K_49
      replace hS_19 := hS_19.ext K_49
      replace ho_28 := ho_28.ext K_49
      replace hS_37 := hS_37.ext K_49
      replace K0 := K0.ext K_49
      refine RL.gst (wantedF1 rfl rfl rfl rfl) <| St1.call (vals := [.pointer (some ⟨s_16, 0, none⟩), .int .i64 (1), .int .i64 (1), .slice (a_44) ((fineL keys).length) (c_45)]) en11 rfl (ap_begin (L := (fineL keys)) hS_19 (fine_rises keys) (fine_any keys) _ _ ho_47.sl (fun x_ hx_ => pr_51 _ ⟨x_, hx_, rfl⟩) hfl) ?_
      rintro _ w_56 ⟨F_55, rfl, hS_57, hm_58, K_59⟩
      have pr_60 : ∀ q_, F_55 q_ → ¬ own a_1 q_ := hm_58.apart pr_22 ho_4.own_lt
      have pr_61 : ∀ q_, F_55 q_ → ¬ own a_25 q_ := hm_58.apart (fun q_ h1 h2 => pr_33 q_ h2 h1) ho_28.own_lt
      have pr_62 : ∀ q_, F_55 q_ → ¬ F_35 q_ := hm_58.apart (fun q_ h1 h2 => pr_41 q_ h2 h1) hS_37.own_lt
      have pr_63 : ∀ q_, F_55 q_ → ¬ own a_44 q_ := hm_58.apart (fun q_ h1 h2 => pr_51 q_ h2 h1) ho_47.own_lt
      have pg_64 : ∀ q_, F_55 q_ → w.heap.size ≤ q_ := hm_58.ge pg_24 K0.size
      replace ho_4 := ho_4.keepO K_59 (fun q_ h1 h2 => pr_22 q_ h2 h1)
      replace ho_28 := ho_28.keepO K_59 pr_33
      replace hS_37 := hS_37.keepO K_59 pr_41
      replace ho_47 := ho_47.keepO K_59 pr_51
      replace K0 := K0.new K_59 pg_24
      clear hm_58
      refine RL.gst (wantedF1 rfl rfl rfl rfl) <| St1.val (litF (x_neI rfl rfl) (by decide)) ?_
      refine RL.val (x_orF rfl rfl rfl) ?_
      refine RL.val (x_moveB rfl) ?_
      refine RL.gst (wantedF1 rfl rfl rfl rfl) <| St1.val (x_moveP rfl) ?_
      refine RL.gst (wantedF1 rfl rfl rfl rfl) <| St1.val (x_moveSl rfl) ?_
      refine RL.gst (wantedF1 rfl rfl rfl rfl) <| St1.call (vals := [.slice (am) (more.length) (cm)]) en9 rfl (fine_ _ more _ _ (hma.ext K0) (by first | decide | assumption | omega) hms) ?_
      rintro _ w_67 ⟨a_65, c_66, rfl, ho_68, hg_69, K_70⟩
      have pr_71 : ∀ q_, own a_65 q_ → ¬ own a_1 q_ := apartNew hg_69 ho_4.own_lt
      have pr_72 : ∀ q_, own a_65 q_ → ¬ own a_25 q_ := apartNew hg_69 ho_28.own_lt
      have pr_73 : ∀ q_, own a_65 q_ → ¬ F_35 q_ := apartNew hg_69 hS_37.own_lt
      have pr_74 : ∀ q_, own a_65 q_ → ¬ own a_44 q_ := apartNew hg_69 ho_47.own_lt
      have pr_75 : ∀ q_, own a_65 q_ → ¬ F_55 q_ := apartNew hg_69 hS_57.own_lt
      have pg_76 : ∀ q_, own a_65 q_ → w.heap.size ≤ q_ := fun q_ h => Nat.le_trans K0.size (hg_69 q_ h)
      clear hg_69
      replace ho_4 := ho_4.ext K_70
      replace ho_28 := ho_28.ext K_70
      replace hS_37 := hS_37.ext K_70
      replace ho_47 := ho_47.ext K_70
      replace hS_57 := hS_57.ext K_70
      replace K0 := K0.ext K_70
      refine RL.gst (wantedF1 rfl rfl rfl rfl) <| St1.call (vals := [.pointer (some ⟨s_16, 0, none⟩), .int .i64 (2), .int .i64 (1), .slice (a_65) ((fineL more).length) (c_66)]) en11 rfl (ap_begin2 (L := (fineL keys)) (M := (fineL more)) hS_57 (fine_rises more) (fine_any more) _ _ ho_68.sl (fun x_ hx_ => pr_75 _ ⟨x_, hx_, rfl⟩) (fine_len more)) ?_
      rintro _ w_78 ⟨F_77, rfl, hS_79, hm_80, K_81⟩
      have pr_82 : ∀ q_, F_77 q_ → ¬ own a_1 q_ := hm_80.apart pr_60 ho_4.own_lt
      have pr_83 : ∀ q_, F_77 q_ → ¬ own a_25 q_ := hm_80.apart pr_61 ho_28.own_lt
      have pr_84 : ∀ q_, F_77 q_ → ¬ F_35 q_ := hm_80.apart pr_62 hS_37.own_lt
      have pr_85 : ∀ q_, F_77 q_ → ¬ own a_44 q_ := hm_80.apart pr_63 ho_47.own_lt
      have pr_86 : ∀ q_, F_77 q_ → ¬ own a_65 q_ := hm_80.apart (fun q_ h1 h2 => pr_75 q_ h2 h1) ho_68.own_lt
      have pg_87 : ∀ q_, F_77 q_ → w.heap.size ≤ q_ := hm_80.ge pg_64 K0.size
      replace ho_4 := ho_4.keepO K_81 (fun q_ h1 h2 => pr_60 q_ h2 h1)
      replace ho_28 := ho_28.keepO K_81 (fun q_ h1 h2 => pr_61 q_ h2 h1)
      replace hS_37 := hS_37.keepO K_81 (fun q_ h1 h2 => pr_62 q_ h2 h1)
      replace ho_47 := ho_47.keepO K_81 (fun q_ h1 h2 => pr_63 q_ h2 h1)
      replace ho_68 := ho_68.keepO K_81 pr_75
      replace K0 := K0.new K_81 pg_64
      clear hm_80
      refine RL.gst (wantedF1 rfl rfl rfl rfl) <| St1.val (litF (x_neI rfl rfl) (by decide)) ?_
      refine RL.val (x_orF rfl rfl rfl) ?_
      refine RL.val (x_moveB rfl) ?_
      refine RL.gst (wantedF1 rfl rfl rfl rfl) <| St1.call (vals := []) en13 rfl (awake_ _) ?_
      rintro _ w_88 ⟨rfl, K_89⟩
      replace ho_4 := ho_4.ext K_89
      replace ho_28 := ho_28.ext K_89
      replace hS_37 := hS_37.ext K_89
      replace ho_47 := ho_47.ext K_89
      replace ho_68 := ho_68.ext K_89
      replace hS_79 := hS_79.ext K_89
      replace K0 := K0.ext K_89
      refine RL.gst (wantedF1 rfl rfl rfl rfl) <| St1.val (x_not rfl) ?_
      refine RL.val (x_orF rfl rfl rfl) ?_
      refine RL.nil ?_
      refine Run.condF rfl ?_
      refine Run.skip ?_
      refine Run.seq ?_
      refine Run.region ?_
      refine RL.val (x_assignF rfl) ?_
      refine RL.nil ?_
      refine Run.seq ?_
      refine Run.region ?_
      refine RL.val (x_moveP rfl) ?_
      refine RL.st rfl <| St1.call (vals := [.pointer (some ⟨s_16, 0, none⟩), .int .i64 (0)]) en14 rfl (ap_tick2 hS_79 (fine_rises keys) (fine_rises more)) ?_
      rintro _ w_93 ⟨T1, T2, ys0, zs0, r20, hB0, hC0, hr2a, hr2b, a_90, c_91, F_92, rfl, ho_94, hg_95, hS_96, hm_97, hap_98, K_99⟩
      have pr_100 : ∀ q_, own a_90 q_ → ¬ own a_1 q_ := apartNew hg_95 ho_4.own_lt
      have pr_101 : ∀ q_, own a_90 q_ → ¬ own a_25 q_ := apartNew hg_95 ho_28.own_lt
      have pr_102 : ∀ q_, own a_90 q_ → ¬ F_35 q_ := apartNew hg_95 hS_37.own_lt
      have pr_103 : ∀ q_, own a_90 q_ → ¬ own a_44 q_ := apartNew hg_95 ho_47.own_lt
      have pr_104 : ∀ q_, own a_90 q_ → ¬ own a_65 q_ := apartNew hg_95 ho_68.own_lt
      have pr_105 : ∀ q_, own a_90 q_ → ¬ F_77 q_ := apartNew hg_95 hS_79.own_lt
      have pg_106 : ∀ q_, own a_90 q_ → w.heap.size ≤ q_ := fun q_ h => Nat.le_trans K0.size (hg_95 q_ h)
      clear hg_95
      have pr_107 : ∀ q_, F_92 q_ → ¬ own a_1 q_ := hm_97.apart pr_82 ho_4.own_lt
      have pr_108 : ∀ q_, F_92 q_ → ¬ own a_25 q_ := hm_97.apart pr_83 ho_28.own_lt
      have pr_109 : ∀ q_, F_92 q_ → ¬ F_35 q_ := hm_97.apart pr_84 hS_37.own_lt
      have pr_110 : ∀ q_, F_92 q_ → ¬ own a_44 q_ := hm_97.apart pr_85 ho_47.own_lt
      have pr_111 : ∀ q_, F_92 q_ → ¬ own a_65 q_ := hm_97.apart pr_86 ho_68.own_lt
      have pg_112 : ∀ q_, F_92 q_ → w.heap.size ≤ q_ := hm_97.ge pg_87 K0.size
      replace ho_4 := ho_4.keepO K_99 (fun q_ h1 h2 => pr_82 q_ h2 h1)
      replace ho_28 := ho_28.keepO K_99 (fun q_ h1 h2 => pr_83 q_ h2 h1)
      replace hS_37 := hS_37.keepO K_99 (fun q_ h1 h2 => pr_84 q_ h2 h1)
      replace ho_47 := ho_47.keepO K_99 (fun q_ h1 h2 => pr_85 q_ h2 h1)
      replace ho_68 := ho_68.keepO K_99 (fun q_ h1 h2 => pr_86 q_ h2 h1)
      replace K0 := K0.new K_99 pg_87
      clear hm_97
      refine RL.val (x_assignSl rfl) ?_
      refine RL.nil ?_
      refine Run.seq ?_
      obtain ⟨hB0a, -⟩ := hB0.lens
      obtain ⟨hC0a, -⟩ := hC0.lens
      have hB0b := hB0.len
      have hC0b := hC0.len
      have hT12 : (T1 ++ T2).length = T1.length + T2.length := List.length_append
      refine Run.region ?_
      refine RL.val (x_moveP rfl) ?_
      refine RL.st rfl <| St1.call (vals := [.pointer (some ⟨s_8, 0, none⟩), .int .i64 (0)]) en14 rfl (ap_tick1 hS_37 (fine_rises keys)) ?_
      rintro _ w_116 ⟨T0, xs0, r10, hA0, hr1a, hr1b, a_113, c_114, F_115, rfl, ho_117, hg_118, hS_119, hm_120, hap_121, K_122⟩
      have pr_123 : ∀ q_, own a_113 q_ → ¬ own a_1 q_ := apartNew hg_118 ho_4.own_lt
      have pr_124 : ∀ q_, own a_113 q_ → ¬ own a_25 q_ := apartNew hg_118 ho_28.own_lt
      have pr_125 : ∀ q_, own a_113 q_ → ¬ F_35 q_ := apartNew hg_118 hS_37.own_lt
      have pr_126 : ∀ q_, own a_113 q_ → ¬ own a_44 q_ := apartNew hg_118 ho_47.own_lt
      have pr_127 : ∀ q_, own a_113 q_ → ¬ own a_65 q_ := apartNew hg_118 ho_68.own_lt
      have pr_128 : ∀ q_, own a_113 q_ → ¬ F_92 q_ := apartNew hg_118 hS_96.own_lt
      have pr_129 : ∀ q_, own a_113 q_ → ¬ own a_90 q_ := apartNew hg_118 ho_94.own_lt
      have pg_130 : ∀ q_, own a_113 q_ → w.heap.size ≤ q_ := fun q_ h => Nat.le_trans K0.size (hg_118 q_ h)
      clear hg_118
      have pr_131 : ∀ q_, F_115 q_ → ¬ own a_1 q_ := hm_120.apart pr_40 ho_4.own_lt
      have pr_132 : ∀ q_, F_115 q_ → ¬ own a_25 q_ := hm_120.apart pr_42 ho_28.own_lt
      have pr_133 : ∀ q_, F_115 q_ → ¬ own a_44 q_ := hm_120.apart (fun q_ h1 h2 => pr_53 q_ h2 h1) ho_47.own_lt
      have pr_134 : ∀ q_, F_115 q_ → ¬ own a_65 q_ := hm_120.apart (fun q_ h1 h2 => pr_73 q_ h2 h1) ho_68.own_lt
      have pr_135 : ∀ q_, F_115 q_ → ¬ F_92 q_ := hm_120.apart (fun q_ h1 h2 => pr_109 q_ h2 h1) hS_96.own_lt
      have pr_136 : ∀ q_, F_115 q_ → ¬ own a_90 q_ := hm_120.apart (fun q_ h1 h2 => pr_102 q_ h2 h1) ho_94.own_lt
      have pg_137 : ∀ q_, F_115 q_ → w.heap.size ≤ q_ := hm_120.ge pg_43 K0.size
      replace ho_4 := ho_4.keepO K_122 (fun q_ h1 h2 => pr_40 q_ h2 h1)
      replace ho_28 := ho_28.keepO K_122 (fun q_ h1 h2 => pr_42 q_ h2 h1)
      replace ho_47 := ho_47.keepO K_122 pr_53
      replace ho_68 := ho_68.keepO K_122 pr_73
      replace hS_96 := hS_96.keepO K_122 pr_109
      replace ho_94 := ho_94.keepO K_122 pr_102
      replace K0 := K0.new K_122 pg_43
      clear hm_120
      refine RL.val (x_moveF rfl) ?_
      refine RL.val (x_moveSl rfl) ?_
      refine RL.st rfl <| St1.call (vals := [.slice (a_90) ((T1 ++ T2).length) (c_91)]) en25 rfl (clone_msg _ _ _ _ ho_94.sl (by omega)) ?_
      rintro _ w_140 ⟨a_138, c_139, rfl, ho_141, hg_142, K_143⟩
      have pr_144 : ∀ q_, own a_138 q_ → ¬ own a_1 q_ := apartNew hg_142 ho_4.own_lt
      have pr_145 : ∀ q_, own a_138 q_ → ¬ own a_25 q_ := apartNew hg_142 ho_28.own_lt
      have pr_146 : ∀ q_, own a_138 q_ → ¬ own a_44 q_ := apartNew hg_142 ho_47.own_lt
      have pr_147 : ∀ q_, own a_138 q_ → ¬ own a_65 q_ := apartNew hg_142 ho_68.own_lt
      have pr_148 : ∀ q_, own a_138 q_ → ¬ F_92 q_ := apartNew hg_142 hS_96.own_lt
      have pr_149 : ∀ q_, own a_138 q_ → ¬ own a_90 q_ := apartNew hg_142 ho_94.own_lt
      have pr_150 : ∀ q_, own a_138 q_ → ¬ F_115 q_ := apartNew hg_142 hS_119.own_lt
      have pr_151 : ∀ q_, own a_138 q_ → ¬ own a_113 q_ := apartNew hg_142 ho_117.own_lt
      have pg_152 : ∀ q_, own a_138 q_ → w.heap.size ≤ q_ := fun q_ h => Nat.le_trans K0.size (hg_142 q_ h)
      clear hg_142
      replace ho_4 := ho_4.ext K_143
      replace ho_28 := ho_28.ext K_143
      replace ho_47 := ho_47.ext K_143
      replace ho_68 := ho_68.ext K_143
      replace hS_96 := hS_96.ext K_143
      replace ho_94 := ho_94.ext K_143
      replace hS_119 := hS_119.ext K_143
      replace ho_117 := ho_117.ext K_143
      replace K0 := K0.ext K_143
      refine RL.st rfl <| St1.callV (vals := [.slice (a_138) ((T1 ++ T2).length) (c_139), .int .i64 (1)]) en22 rfl rfl ((of12 hB0 hC0 ho_141 (by simp only [List.length_append]; omega)).1) ?_
      rintro _ w_153 ⟨rfl, ho_154, K_155⟩
      replace ho_4 := ho_4.keepO K_155 (fun q_ h1 h2 => pr_144 q_ h2 h1)
      replace ho_28 := ho_28.keepO K_155 (fun q_ h1 h2 => pr_145 q_ h2 h1)
      replace ho_47 := ho_47.keepO K_155 (fun q_ h1 h2 => pr_146 q_ h2 h1)
      replace ho_68 := ho_68.keepO K_155 (fun q_ h1 h2 => pr_147 q_ h2 h1)
      replace hS_96 := hS_96.keepO K_155 (fun q_ h1 h2 => pr_148 q_ h2 h1)
      replace ho_94 := ho_94.keepO K_155 (fun q_ h1 h2 => pr_149 q_ h2 h1)
      replace hS_119 := hS_119.keepO K_155 (fun q_ h1 h2 => pr_150 q_ h2 h1)
      replace ho_117 := ho_117.keepO K_155 (fun q_ h1 h2 => pr_151 q_ h2 h1)
      replace K0 := K0.new K_155 pg_152
      replace ho_141 := ho_154
      clear ho_154
      refine RL.val (x_moveF rfl) ?_
      refine RL.val (x_moveSl rfl) ?_
      refine RL.st rfl <| St1.call (vals := [.slice (a_90) ((T1 ++ T2).length) (c_91)]) en25 rfl (clone_msg _ _ _ _ ho_94.sl (by omega)) ?_
      rintro _ w_158 ⟨a_156, c_157, rfl, ho_159, hg_160, K_161⟩
      have pr_162 : ∀ q_, own a_156 q_ → ¬ own a_1 q_ := apartNew hg_160 ho_4.own_lt
      have pr_163 : ∀ q_, own a_156 q_ → ¬ own a_25 q_ := apartNew hg_160 ho_28.own_lt
      have pr_164 : ∀ q_, own a_156 q_ → ¬ own a_44 q_ := apartNew hg_160 ho_47.own_lt
      have pr_165 : ∀ q_, own a_156 q_ → ¬ own a_65 q_ := apartNew hg_160 ho_68.own_lt
      have pr_166 : ∀ q_, own a_156 q_ → ¬ F_92 q_ := apartNew hg_160 hS_96.own_lt
      have pr_167 : ∀ q_, own a_156 q_ → ¬ own a_90 q_ := apartNew hg_160 ho_94.own_lt
      have pr_168 : ∀ q_, own a_156 q_ → ¬ F_115 q_ := apartNew hg_160 hS_119.own_lt
      have pr_169 : ∀ q_, own a_156 q_ → ¬ own a_113 q_ := apartNew hg_160 ho_117.own_lt
      have pr_170 : ∀ q_, own a_156 q_ → ¬ own a_138 q_ := apartNew hg_160 ho_141.own_lt
      have pg_171 : ∀ q_, own a_156 q_ → w.heap.size ≤ q_ := fun q_ h => Nat.le_trans K0.size (hg_160 q_ h)
      clear hg_160
      replace ho_4 := ho_4.ext K_161
      replace ho_28 := ho_28.ext K_161
      replace ho_47 := ho_47.ext K_161
      replace ho_68 := ho_68.ext K_161
      replace hS_96 := hS_96.ext K_161
      replace ho_94 := ho_94.ext K_161
      replace hS_119 := hS_119.ext K_161
      replace ho_117 := ho_117.ext K_161
      replace ho_141 := ho_141.ext K_161
      replace K0 := K0.ext K_161
      refine RL.st rfl <| St1.callV (vals := [.slice (a_156) ((T1 ++ T2).length) (c_157), .int .i64 (2)]) en22 rfl rfl ((of12 hB0 hC0 ho_159 (by simp only [List.length_append]; omega)).2) ?_
      rintro _ w_172 ⟨rfl, ho_173, K_174⟩
      replace ho_4 := ho_4.keepO K_174 (fun q_ h1 h2 => pr_162 q_ h2 h1)
      replace ho_28 := ho_28.keepO K_174 (fun q_ h1 h2 => pr_163 q_ h2 h1)
      replace ho_47 := ho_47.keepO K_174 (fun q_ h1 h2 => pr_164 q_ h2 h1)
      replace ho_68 := ho_68.keepO K_174 (fun q_ h1 h2 => pr_165 q_ h2 h1)
      replace hS_96 := hS_96.keepO K_174 (fun q_ h1 h2 => pr_166 q_ h2 h1)
      replace ho_94 := ho_94.keepO K_174 (fun q_ h1 h2 => pr_167 q_ h2 h1)
      replace hS_119 := hS_119.keepO K_174 (fun q_ h1 h2 => pr_168 q_ h2 h1)
      replace ho_117 := ho_117.keepO K_174 (fun q_ h1 h2 => pr_169 q_ h2 h1)
      replace ho_141 := ho_141.keepO K_174 (fun q_ h1 h2 => pr_170 q_ h2 h1)
      replace K0 := K0.new K_174 pg_171
      replace ho_159 := ho_173
      clear ho_173
      refine RL.val (x_assignSl rfl) ?_
      refine RL.val (x_assignSl rfl) ?_
      refine RL.val (x_assignSl rfl) ?_
      refine RL.nil ?_
      refine Run.seq ?_
      refine Run.seq ?_
      refine Run.region ?_
      refine RL.val (x_moveSl rfl) ?_
      refine RL.val (x_lenSl Try.underlying51 rfl) ?_
      refine RL.val (x_moveI rfl) ?_
      refine RL.nil ?_
      refine Run.block ?_
      refine Run.loop (ι := Nat) (fun i ρ' w' => ∃ ks : List ByteArray, ∃ rest : List ByteArray, ∃ k2 : List ByteArray, ∃ rest2 : List ByteArray, ∃ xs : List Item, ∃ ys : List Item, ∃ zs : List Item, ∃ QA : List HMsg, ∃ QB : List HMsg, ∃ QC : List HMsg, ∃ r1 : Int, ∃ r2 : Int, ∃ F1 : Nat → Prop, ∃ G1 : Nat → Prop, ∃ aA : Option Addr, ∃ cA : Nat, ∃ aB : Option Addr, ∃ cB : Nat, ∃ aC : Option Addr, ∃ cC : Nat, Holds ρ' [(8, .pointer (some ⟨s_8, 0, none⟩)), (10, .pointer (some ⟨s_16, 0, none⟩)), (14, .slice (aA) ((QA).length) (cA)), (15, .slice (aB) ((QB).length) (cB)), (16, .slice (aC) ((QC).length) (cC)), (84, .slice (aa) (acks.length) (ca)), (85, .int .i64 (((acks.length : Nat) : Int))), (86, .int .i64 (((i : Nat) : Int)))] ∧ Ext w w' ∧ (OwnSl w' 9 (a_1) (c_2) (fineL keys)) ∧ (OwnSl w' 9 (a_25) (c_26) (fineL keys)) ∧ (OwnSl w' 9 (a_44) (c_45) (fineL keys)) ∧ (OwnSl w' 9 (a_65) (c_66) (fineL more)) ∧ (OwnSl w' 46 (a_90) (c_91) (T1 ++ T2)) ∧ (SndAt w' s_16 G1 0 0 r2 [⟨1, 1, ys⟩, ⟨2, 1, zs⟩]) ∧ (SndAt w' s_8 F1 0 0 r1 [⟨1, 1, xs⟩]) ∧ (OwnSl w' 46 aA cA (QA)) ∧ (OwnSl w' 46 aB cB (QB)) ∧ (OwnAt w' 46 aC cC (QC)) ∧ (∀ q_, G1 q_ → ¬ own a_1 q_) ∧ (∀ q_, G1 q_ → ¬ own a_25 q_) ∧ (∀ q_, G1 q_ → ¬ own a_44 q_) ∧ (∀ q_, G1 q_ → ¬ own a_65 q_) ∧ (∀ q_, G1 q_ → ¬ own a_90 q_) ∧ (∀ q_, G1 q_ → ¬ F1 q_) ∧ (∀ q_, G1 q_ → ¬ own aA q_) ∧ (∀ q_, G1 q_ → ¬ own aB q_) ∧ (∀ q_, G1 q_ → ¬ own aC q_) ∧ (∀ q_, G1 q_ → w.heap.size ≤ q_) ∧ (∀ q_, F1 q_ → ¬ own a_1 q_) ∧ (∀ q_, F1 q_ → ¬ own a_25 q_) ∧ (∀ q_, F1 q_ → ¬ own a_44 q_) ∧ (∀ q_, F1 q_ → ¬ own a_65 q_) ∧ (∀ q_, F1 q_ → ¬ own a_90 q_) ∧ (∀ q_, F1 q_ → ¬ own aA q_) ∧ (∀ q_, F1 q_ → ¬ own aB q_) ∧ (∀ q_, F1 q_ → ¬ own aC q_) ∧ (∀ q_, F1 q_ → w.heap.size ≤ q_) ∧ (∀ q_, own aA q_ → ¬ own a_1 q_) ∧ (∀ q_, own aA q_ → ¬ own a_25 q_) ∧ (∀ q_, own aA q_ → ¬ own a_44 q_) ∧ (∀ q_, own aA q_ → ¬ own a_65 q_) ∧ (∀ q_, own aA q_ → ¬ own a_90 q_) ∧ (∀ q_, own aA q_ → ¬ own aB q_) ∧ (∀ q_, own aA q_ → ¬ own aC q_) ∧ (∀ q_, own aA q_ → w.heap.size ≤ q_) ∧ (∀ q_, own aB q_ → ¬ own a_1 q_) ∧ (∀ q_, own aB q_ → ¬ own a_25 q_) ∧ (∀ q_, own aB q_ → ¬ own a_44 q_) ∧ (∀ q_, own aB q_ → ¬ own a_65 q_) ∧ (∀ q_, own aB q_ → ¬ own a_90 q_) ∧ (∀ q_, own aB q_ → ¬ own aC q_) ∧ (∀ q_, own aB q_ → w.heap.size ≤ q_) ∧ (∀ q_, own aC q_ → ¬ own a_1 q_) ∧ (∀ q_, own aC q_ → ¬ own a_25 q_) ∧ (∀ q_, own aC q_ → ¬ own a_44 q_) ∧ (∀ q_, own aC q_ → ¬ own a_65 q_) ∧ (∀ q_, own aC q_ → ¬ own a_90 q_) ∧ (∀ q_, own aC q_ → w.heap.size ≤ q_) ∧ (i ≤ acks.length) ∧ (i ≤ 61) ∧ (QInv 1 ks rest xs QA) ∧ (QInv 1 ks rest ys QB) ∧ (QInv 2 k2 rest2 zs QC) ∧ (0 ≤ r1 ∧ r1 ≤ 4 + (i : Int)) ∧ (0 ≤ r2 ∧ r2 ≤ 8 + (i : Int))) (fun i => acks.length - i) 0 ?_ ?_
      · refine ⟨(fineL keys).take 4, (fineL keys).drop 4, (fineL more).take 4, (fineL more).drop 4, xs0, ys0, zs0, T0, T1, T2, r10, r20, _, _, _, _, _, _, _, _, ⟨rfl, rfl, rfl, rfl, rfl, rfl, rfl, rfl, trivial⟩, K0, ho_4, ho_28, ho_47, ho_68, ho_94, hS_96, hS_119, ho_117, ho_141, (OwnSl.at_ ho_159), pr_107, pr_108, pr_110, pr_111, (fun q_ h1 h2 => hap_98 q_ h2 h1), (fun q_ h1 h2 => pr_135 q_ h2 h1), (fun q_ h1 h2 => pr_128 q_ h2 h1), (fun q_ h1 h2 => pr_148 q_ h2 h1), (fun q_ h1 h2 => pr_166 q_ h2 h1), pg_112, pr_131, pr_132, pr_133, pr_134, pr_136, (fun q_ h1 h2 => hap_121 q_ h2 h1), (fun q_ h1 h2 => pr_150 q_ h2 h1), (fun q_ h1 h2 => pr_168 q_ h2 h1), pg_137, pr_123, pr_124, pr_126, pr_127, pr_129, (fun q_ h1 h2 => pr_151 q_ h2 h1), (fun q_ h1 h2 => pr_169 q_ h2 h1), pg_130, pr_144, pr_145, pr_146, pr_147, pr_149, (fun q_ h1 h2 => pr_170 q_ h2 h1), pg_152, pr_162, pr_163, pr_164, pr_165, pr_167, pg_171, ?_, ?_, ?_, ?_, ?_, ?_, ?_⟩
        · omega
        · omega
        · exact hA0
        · exact hB0
        · exact hC0
        · omega
        · omega
      clear ho_4 ho_28 ho_47 ho_68 hS_96 ho_94 hS_119 ho_117 ho_141 ho_159
      clear K0
      rintro i ρ_222 w_175 ⟨ks, rest, k2, rest2, xs, ys, zs, QA, QB, QC, r1, r2, F1, G1, aA, cA, aB, cB, aC, cC, hH_176, K0, ho_4, ho_28, ho_47, ho_68, ho_94, hO_177, hO_178, ho_179, ho_180, ho_181, pr_182, pr_183, pr_184, pr_185, pr_186, pr_187, pr_188, pr_189, pr_190, pr_191, pr_192, pr_193, pr_194, pr_195, pr_196, pr_197, pr_198, pr_199, pr_200, pr_201, pr_202, pr_203, pr_204, pr_205, pr_206, pr_207, pr_208, pr_209, pr_210, pr_211, pr_212, pr_213, pr_214, pr_215, pr_216, pr_217, pr_218, pr_219, pr_220, pr_221, hi, hi2, hA, hB, hC, hr1, hr2⟩ ih1
      obtain ⟨ρ₀, rfl⟩ := hH_176.ex
      clear hH_176
      refine Run.seq ?_
      refine Run.region ?_
      refine RL.val (x_ltI rfl rfl) ?_
      refine RL.nil ?_
      refine Run.seq ?_
      refine Run.cond rfl (fun hc87 => ?_) (fun hc87 => ?_)
      · try simp only [br] at hc87
        refine Run.skip ?_
        refine Run.seq ?_
        refine Run.block ?_
        refine Run.seq ?_
        refine Run.region ?_
        refine RL.val (x_moveI rfl) ?_
        obtain ⟨b_223, o_224, k, hk, ha_225, hc_226⟩ := haa.el (i := i) (by first | omega | (simp only [List.length_set]; omega))
        have hc_226_lt := hc_226.lt
        replace hc_226 := hc_226.ext K0
        refine RL.val (x_idxN Try.underlying51 ty30 rfl rfl ha_225 (by first | omega | (simp only [List.length_set]; omega))) ?_
        refine RL.val (x_ldV (v := .int .u64 ((k).v)) (y := k) ty30 rfl hc_226 rfl) ?_
        refine RL.val (x_assignI rfl) ?_
        refine RL.val (x_assignI rfl) ?_
        refine RL.nil ?_
        obtain ⟨qa1, qa2⟩ := hA.lens
        obtain ⟨qb1, qb2⟩ := hB.lens
        obtain ⟨qc1, qc2⟩ := hC.lens
        have qa3 := hA.len
        have qc3 := hC.len
        refine Run.seq ?_
        refine Run.seq ?_
        refine Run.region ?_
        refine RL.val (x_moveI rfl) ?_
        refine RL.val (x_gtI rfl rfl) ?_
        refine RL.nil ?_
        refine Run.cond rfl (fun hc92 => ?_) (fun hc92 => ?_)
        · try simp only [br] at hc92
          refine Run.exit rfl ?_
          refine Run.seq ?_
          obtain ⟨qa1, qa2⟩ := hA.lens
          obtain ⟨qb1, qb2⟩ := hB.lens
          refine Run.region ?_
          refine RL.val (x_moveSl rfl) ?_
          refine RL.val (x_lenSl Try.underlying31 rfl) ?_
          refine RL.val (x_moveSl rfl) ?_
          refine RL.val (x_lenSl Try.underlying31 rfl) ?_
          refine RL.val (x_eqI rfl rfl) ?_
          refine RL.val (x_moveB rfl) ?_
          refine RL.gval (wantedT rfl rfl rfl rfl) (fun hg => (x_moveP rfl)) ?_
          refine RL.gcall (vals := [.pointer (some ⟨s_8, 0, none⟩), .int .i64 (1), .int .i64 (1)]) (wantedT rfl rfl rfl rfl) en17 (fun hg => (mcons (gvr hg) (mcons rfl (mcons rfl mnil)))) (fun hg => (ap_left1 hO_178 (by simp))) ?_
          intro w_229 K_230
          replace ho_4 := ho_4.ext K_230
          replace ho_28 := ho_28.ext K_230
          replace ho_47 := ho_47.ext K_230
          replace ho_68 := ho_68.ext K_230
          replace ho_94 := ho_94.ext K_230
          replace hO_177 := hO_177.ext K_230
          replace hO_178 := hO_178.ext K_230
          replace ho_179 := ho_179.ext K_230
          replace ho_180 := ho_180.ext K_230
          replace ho_181 := ho_181.ext K_230
          replace K0 := K0.ext K_230
          refine RL.gval (wantedT rfl rfl rfl rfl) (fun hg => (x_moveP rfl)) ?_
          refine RL.gcall (vals := [.pointer (some ⟨s_16, 0, none⟩), .int .i64 (1), .int .i64 (1)]) (wantedT rfl rfl rfl rfl) en17 (fun hg => (mcons (gvr hg) (mcons rfl (mcons rfl mnil)))) (fun hg => (ap_left1 hO_177 (by simp))) ?_
          intro w_231 K_232
          replace ho_4 := ho_4.ext K_232
          replace ho_28 := ho_28.ext K_232
          replace ho_47 := ho_47.ext K_232
          replace ho_68 := ho_68.ext K_232
          replace ho_94 := ho_94.ext K_232
          replace hO_177 := hO_177.ext K_232
          replace hO_178 := hO_178.ext K_232
          replace ho_179 := ho_179.ext K_232
          replace ho_180 := ho_180.ext K_232
          replace ho_181 := ho_181.ext K_232
          replace K0 := K0.ext K_232
          refine RL.gval (wantedT rfl rfl rfl rfl) (fun hg => (x_eqI (gvr hg) (gvr hg))) ?_
          refine RL.val (x_and rfl rfl rfl) ?_
          refine RL.val (x_assignB rfl) ?_
          refine RL.nil ?_
          refine Run.ret1 (v := .bool (((((QA).length : Nat) : Int) == (((QB).length : Nat) : Int)) && (((xs.length : Nat) : Int) == ((ys.length : Nat) : Int)))) Try.func6 rfl rfl ?_
          exact ⟨_, rfl, congrArg Value.bool (by rw [Bool.and_eq_true, beq_iff_eq, beq_iff_eq]; omega), K0⟩
        · try simp only [br] at hc92
          refine Run.skip ?_
          refine Run.seq ?_
          refine Run.seq ?_
          refine Run.region ?_
          refine RL.val (x_moveSl rfl) ?_
          refine RL.val (x_lenSl Try.underlying31 rfl) ?_
          refine RL.val (x_moveSl rfl) ?_
          refine RL.val (x_lenSl Try.underlying31 rfl) ?_
          refine RL.val (x_neI rfl rfl) ?_
          refine RL.val (x_moveB rfl) ?_
          refine RL.gval (wantedF rfl rfl rfl rfl) (fun hg => (x_moveP rfl)) ?_
          refine RL.gcall (vals := [.pointer (some ⟨s_8, 0, none⟩), .int .i64 (1), .int .i64 (1)]) (wantedF rfl rfl rfl rfl) en17 (fun hg => (mcons (gvr hg) (mcons rfl (mcons rfl mnil)))) (fun hg => (ap_left1 hO_178 (by simp))) ?_
          intro w_233 K_234
          replace ho_4 := ho_4.ext K_234
          replace ho_28 := ho_28.ext K_234
          replace ho_47 := ho_47.ext K_234
          replace ho_68 := ho_68.ext K_234
          replace ho_94 := ho_94.ext K_234
          replace hO_177 := hO_177.ext K_234
          replace hO_178 := hO_178.ext K_234
          replace ho_179 := ho_179.ext K_234
          replace ho_180 := ho_180.ext K_234
          replace ho_181 := ho_181.ext K_234
          replace K0 := K0.ext K_234
          refine RL.gval (wantedF rfl rfl rfl rfl) (fun hg => (x_moveP rfl)) ?_
          refine RL.gcall (vals := [.pointer (some ⟨s_16, 0, none⟩), .int .i64 (1), .int .i64 (1)]) (wantedF rfl rfl rfl rfl) en17 (fun hg => (mcons (gvr hg) (mcons rfl (mcons rfl mnil)))) (fun hg => (ap_left1 hO_177 (by simp))) ?_
          intro w_235 K_236
          replace ho_4 := ho_4.ext K_236
          replace ho_28 := ho_28.ext K_236
          replace ho_47 := ho_47.ext K_236
          replace ho_68 := ho_68.ext K_236
          replace ho_94 := ho_94.ext K_236
          replace hO_177 := hO_177.ext K_236
          replace hO_178 := hO_178.ext K_236
          replace ho_179 := ho_179.ext K_236
          replace ho_180 := ho_180.ext K_236
          replace ho_181 := ho_181.ext K_236
          replace K0 := K0.ext K_236
          refine RL.gval (wantedF rfl rfl rfl rfl) (fun hg => (x_neI (gvr hg) (gvr hg))) ?_
          refine RL.val (x_or rfl rfl rfl) ?_
          refine RL.val (x_moveB rfl) ?_
          refine RL.gval (wantedF rfl rfl rfl rfl) (fun hg => (x_moveP rfl)) ?_
          refine RL.gcall (vals := [.pointer (some ⟨s_8, 0, none⟩), .int .i64 (1), .int .i64 (1)]) (wantedF rfl rfl rfl rfl) en18 (fun hg => (mcons (gvr hg) (mcons rfl (mcons rfl mnil)))) (fun hg => (ap_done1 hO_178 (by simp))) ?_
          intro w_237 K_238
          replace ho_4 := ho_4.ext K_238
          replace ho_28 := ho_28.ext K_238
          replace ho_47 := ho_47.ext K_238
          replace ho_68 := ho_68.ext K_238
          replace ho_94 := ho_94.ext K_238
          replace hO_177 := hO_177.ext K_238
          replace hO_178 := hO_178.ext K_238
          replace ho_179 := ho_179.ext K_238
          replace ho_180 := ho_180.ext K_238
          replace ho_181 := ho_181.ext K_238
          replace K0 := K0.ext K_238
          refine RL.gval (wantedF rfl rfl rfl rfl) (fun hg => (x_moveP rfl)) ?_
          refine RL.gcall (vals := [.pointer (some ⟨s_16, 0, none⟩), .int .i64 (1), .int .i64 (1)]) (wantedF rfl rfl rfl rfl) en18 (fun hg => (mcons (gvr hg) (mcons rfl (mcons rfl mnil)))) (fun hg => (ap_done1 hO_177 (by simp))) ?_
          intro w_239 K_240
          replace ho_4 := ho_4.ext K_240
          replace ho_28 := ho_28.ext K_240
          replace ho_47 := ho_47.ext K_240
          replace ho_68 := ho_68.ext K_240
          replace ho_94 := ho_94.ext K_240
          replace hO_177 := hO_177.ext K_240
          replace hO_178 := hO_178.ext K_240
          replace ho_179 := ho_179.ext K_240
          replace ho_180 := ho_180.ext K_240
          replace ho_181 := ho_181.ext K_240
          replace K0 := K0.ext K_240
          refine RL.gval (wantedF rfl rfl rfl rfl) (fun hg => (x_neB Try.underlying4 (gvr hg) (gvr hg))) ?_
          refine RL.val (x_or rfl rfl rfl) ?_
          refine RL.nil ?_
          refine Run.cond rfl (fun hc111 => ?_) (fun hc111 => ?_)
          · try simp only [br] at hc111
            exact absurd hc111 (fun h => h.elim (fun h => by omega) (fun h => h (decide_eq_decide.2 (by omega))))
          · try simp only [br] at hc111
            refine Run.skip ?_
            refine Run.seq ?_
            refine Run.seq ?_
            refine Run.region ?_
            refine RL.val (x_moveI rfl) ?_
            refine RL.val (x_rem rfl rfl (by decide)) ?_
            refine RL.val (x_eqI rfl rfl) ?_
            refine RL.val (x_moveB rfl) ?_
            refine RL.gval (wantedT rfl rfl rfl rfl) (fun hg => (x_moveSl rfl)) ?_
            refine RL.gval (wantedT rfl rfl rfl rfl) (fun hg => (x_lenSl Try.underlying31 (gvr hg))) ?_
            refine RL.gval (wantedT rfl rfl rfl rfl) (fun hg => (x_gtI (gvr hg) rfl)) ?_
            refine RL.val (x_and rfl rfl rfl) ?_
            refine RL.nil ?_
            refine Run.cond rfl (fun hc119 => ?_) (fun hc119 => ?_)
            · try simp only [br] at hc119
              refine Run.seq ?_
              refine Run.region ?_
              refine RL.val (x_moveSl rfl) ?_
              obtain ⟨b_241, o_242, z, hz, ha_243, hc_244⟩ := ho_181.sl.el (i := 0) (by first | omega | (simp only [List.length_set]; omega))
              refine RL.val (x_idxN Try.underlying31 ty46 rfl rfl ha_243 (by first | omega | (simp only [List.length_set]; omega))) ?_
              refine RL.val (x_ldV (v := .agg #[.int .i64 ((z).kind), .int .i64 ((z).frm), .int .i64 ((z).to), .int .i64 ((z).req), .string ((z).key), .slice (none) (0) (0), .slice (none) (0) (0), .slice (none) (0) (0), .int .i64 (0), .int .i64 ((z).part), .int .i64 (0), .int .i64 (0), .int .i64 (0), .int .i64 (0), .slice (none) (0) (0), .slice (none) (0) (0), .slice (none) (0) (0)]) (y := z) ty46 rfl hc_244 rfl) ?_
              refine RL.st rfl <| St1.alloc ty46 ?_
              intro b_247 w_248 hl_251 hb_250 K_249
              replace hb_250 : Blk w_248 b_247 [.int .i64 (0), .int .i64 (0), .int .i64 (0), .int .i64 (0), .string (⟨#[]⟩), .slice (none) (0) (0), .slice (none) (0) (0), .slice (none) (0) (0), .int .i64 (0), .int .i64 (0), .int .i64 (0), .int .i64 (0), .int .i64 (0), .int .i64 (0), .slice (none) (0) (0), .slice (none) (0) (0), .slice (none) (0) (0)] 46 := hb_250
              have ne_252 : b_241 < b_247 := Nat.lt_of_lt_of_le hc_244.lt hl_251
              have pr_253 : ¬ own a_1 b_247 := fun h => absurd (ho_4.own_lt _ h) (by omega)
              have pr_254 : ¬ own a_25 b_247 := fun h => absurd (ho_28.own_lt _ h) (by omega)
              have pr_255 : ¬ own a_44 b_247 := fun h => absurd (ho_47.own_lt _ h) (by omega)
              have pr_256 : ¬ own a_65 b_247 := fun h => absurd (ho_68.own_lt _ h) (by omega)
              have pr_257 : ¬ own a_90 b_247 := fun h => absurd (ho_94.own_lt _ h) (by omega)
              have pr_258 : ¬ G1 b_247 := fun h => absurd (hO_177.own_lt _ h) (by omega)
              have pr_259 : ¬ F1 b_247 := fun h => absurd (hO_178.own_lt _ h) (by omega)
              have pr_260 : ¬ own aA b_247 := fun h => absurd (ho_179.own_lt _ h) (by omega)
              have pr_261 : ¬ own aB b_247 := fun h => absurd (ho_180.own_lt _ h) (by omega)
              have pr_262 : ¬ own aC b_247 := fun h => absurd (ho_181.own_lt _ h) (by omega)
              have : w.heap.size ≤ b_247 := Nat.le_trans K0.size hl_251
              clear hl_251
              replace ho_4 := ho_4.ext K_249
              replace ho_28 := ho_28.ext K_249
              replace ho_47 := ho_47.ext K_249
              replace ho_68 := ho_68.ext K_249
              replace ho_94 := ho_94.ext K_249
              replace hO_177 := hO_177.ext K_249
              replace hO_178 := hO_178.ext K_249
              replace ho_179 := ho_179.ext K_249
              replace ho_180 := ho_180.ext K_249
              replace ho_181 := ho_181.ext K_249
              replace hc_244 := hc_244.ext K_249
              replace K0 := K0.ext K_249
              refine RL.st rfl <| St1.store (v := .agg #[.int .i64 ((z).kind), .int .i64 ((z).frm), .int .i64 ((z).to), .int .i64 ((z).req), .string ((z).key), .slice (none) (0) (0), .slice (none) (0) (0), .slice (none) (0) (0), .int .i64 (0), .int .i64 ((z).part), .int .i64 (0), .int .i64 (0), .int .i64 (0), .int .i64 (0), .slice (none) (0) (0), .slice (none) (0) (0), .slice (none) (0) (0)]) ty46 rfl rfl rfl (by simp [Value.cells, Value.oneCell']) hb_250 (by simp) ?_
              intro w_263 hb_250_ K_264
              have hb_250' : Blk w_263 b_247 [.int .i64 ((z).kind), .int .i64 ((z).frm), .int .i64 ((z).to), .int .i64 ((z).req), .string ((z).key), .slice (none) (0) (0), .slice (none) (0) (0), .slice (none) (0) (0), .int .i64 (0), .int .i64 ((z).part), .int .i64 (0), .int .i64 (0), .int .i64 (0), .int .i64 (0), .slice (none) (0) (0), .slice (none) (0) (0), .slice (none) (0) (0)] 46 := hb_250_
              clear hb_250_
              replace ho_4 := ho_4.keepO K_264 (fun q_ hq_ eq_ => pr_253 (by simp only [one] at eq_; rw [← eq_]; exact hq_))
              replace ho_28 := ho_28.keepO K_264 (fun q_ hq_ eq_ => pr_254 (by simp only [one] at eq_; rw [← eq_]; exact hq_))
              replace ho_47 := ho_47.keepO K_264 (fun q_ hq_ eq_ => pr_255 (by simp only [one] at eq_; rw [← eq_]; exact hq_))
              replace ho_68 := ho_68.keepO K_264 (fun q_ hq_ eq_ => pr_256 (by simp only [one] at eq_; rw [← eq_]; exact hq_))
              replace ho_94 := ho_94.keepO K_264 (fun q_ hq_ eq_ => pr_257 (by simp only [one] at eq_; rw [← eq_]; exact hq_))
              replace hO_177 := hO_177.keepO K_264 (fun q_ hq_ eq_ => pr_258 (by simp only [one] at eq_; rw [← eq_]; exact hq_))
              replace hO_178 := hO_178.keepO K_264 (fun q_ hq_ eq_ => pr_259 (by simp only [one] at eq_; rw [← eq_]; exact hq_))
              replace ho_179 := ho_179.keepO K_264 (fun q_ hq_ eq_ => pr_260 (by simp only [one] at eq_; rw [← eq_]; exact hq_))
              replace ho_180 := ho_180.keepO K_264 (fun q_ hq_ eq_ => pr_261 (by simp only [one] at eq_; rw [← eq_]; exact hq_))
              replace ho_181 := ho_181.keepO K_264 (fun q_ hq_ eq_ => pr_262 (by simp only [one] at eq_; rw [← eq_]; exact hq_))
              replace hc_244 := hc_244.keep K_264 (fun e => pr_262 (by simp only [one] at e; rw [← e]; exact (own_sub _) _ ha_243))
              replace K0 := K0.new K_264 (fun x hx => by simp only [one] at hx; omega)
              replace hb_250 := hb_250'
              clear hb_250'
              refine RL.nil ?_
              refine Run.seq ?_
              refine Run.drawT [] (m := 8) (by kernel_rfl) rfl ?_
              intro w_265 K_266
              replace ho_4 := ho_4.ext K_266
              replace ho_28 := ho_28.ext K_266
              replace ho_47 := ho_47.ext K_266
              replace ho_68 := ho_68.ext K_266
              replace ho_94 := ho_94.ext K_266
              replace hO_177 := hO_177.ext K_266
              replace hO_178 := hO_178.ext K_266
              replace ho_179 := ho_179.ext K_266
              replace ho_180 := ho_180.ext K_266
              replace ho_181 := ho_181.ext K_266
              replace hb_250 := hb_250.ext K_266
              replace K0 := K0.ext K_266
              refine ⟨fun w' => Blk w' b_247 [.int .i64 ((z).kind), .int .i64 ((z).frm), .int .i64 ((z).to), .int .i64 ((z).req), .string ((z).key), .slice (none) (0) (0), .slice (none) (0) (0), .slice (none) (0) (0), .int .i64 (0), .int .i64 ((z).part), .int .i64 (0), .int .i64 (0), .int .i64 (0), .int .i64 (0), .slice (none) (0) (0), .slice (none) (0) (0), .slice (none) (0) (0)] 46 ∧ True, ?_⟩
              refine RT.takeP (v := .slice (aC) ((QC).length) (cC)) 0 rfl (by kernel_rfl) (.inr ⟨hb_250, trivial⟩) (fun _ => (x_moveSl rfl)) ?_
              refine RT.takeP (v := .slice (advA aC cC 1 17) ((QC.drop 1).length) (cC - 1)) 1 rfl (by kernel_rfl) (.inr ⟨hb_250, trivial⟩) (fun _ => (x_sliceFrom (xs := QC) Try.underlying31 ty46 rfl rfl (by omega))) ?_
              refine RT.takeP (v := .pointer (some ⟨s_16, 0, none⟩)) 2 rfl (by kernel_rfl) (.inr ⟨hb_250, trivial⟩) (fun _ => (x_moveP rfl)) ?_
              refine RT.take (v := .agg #[.int .i64 ((z).kind), .int .i64 ((z).frm), .int .i64 ((z).to), .int .i64 ((z).req), .string ((z).key), .slice (none) (0) (0), .slice (none) (0) (0), .slice (none) (0) (0), .int .i64 (0), .int .i64 ((z).part), .int .i64 (0), .int .i64 (0), .int .i64 (0), .int .i64 (0), .slice (none) (0) (0), .slice (none) (0) (0), .slice (none) (0) (0)]) 3 rfl (by kernel_rfl) ⟨hb_250, trivial⟩ (by rintro _ ⟨hb_250, -⟩; exact (x_lds (cs := #[.int .i64 ((z).kind), .int .i64 ((z).frm), .int .i64 ((z).to), .int .i64 ((z).req), .string ((z).key), .slice (none) (0) (0), .slice (none) (0) (0), .slice (none) (0) (0), .int .i64 (0), .int .i64 ((z).part), .int .i64 (0), .int .i64 (0), .int .i64 (0), .int .i64 (0), .slice (none) (0) (0), .slice (none) (0) (0), .slice (none) (0) (0)]) ty46 rfl rfl (hb_250.cl.drop 0 17))) ?_
              refine RT.st 4 rfl (by kernel_rfl) rfl <| St1.call (vals := [.agg #[.int .i64 ((z).kind), .int .i64 ((z).frm), .int .i64 ((z).to), .int .i64 ((z).req), .string ((z).key), .slice (none) (0) (0), .slice (none) (0) (0), .slice (none) (0) (0), .int .i64 (0), .int .i64 ((z).part), .int .i64 (0), .int .i64 (0), .int .i64 (0), .int .i64 (0), .slice (none) (0) (0), .slice (none) (0) (0), .slice (none) (0) (0)]]) en16 rfl (handed_ z _) ?_
              rintro _ w_267 ⟨rfl, K_268⟩
              replace ho_4 := ho_4.ext K_268
              replace ho_28 := ho_28.ext K_268
              replace ho_47 := ho_47.ext K_268
              replace ho_68 := ho_68.ext K_268
              replace ho_94 := ho_94.ext K_268
              replace hO_177 := hO_177.ext K_268
              replace hO_178 := hO_178.ext K_268
              replace ho_179 := ho_179.ext K_268
              replace ho_180 := ho_180.ext K_268
              replace ho_181 := ho_181.ext K_268
              replace hb_250 := hb_250.ext K_268
              replace K0 := K0.ext K_268
              refine ⟨.inr ⟨hb_250, trivial⟩, ?_⟩
              refine RT.st 5 rfl (by kernel_rfl) rfl <| St1.call (vals := [.pointer (some ⟨s_16, 0, none⟩), .agg #[.int .i64 (((handedM z)).kind), .int .i64 (((handedM z)).frm), .int .i64 (((handedM z)).to), .int .i64 (((handedM z)).req), .string (((handedM z)).key), .slice (none) (0) (0), .slice (none) (0) (0), .slice (none) (0) (0), .int .i64 (0), .int .i64 (((handedM z)).part), .int .i64 (0), .int .i64 (0), .int .i64 (0), .int .i64 (0), .slice (none) (0) (0), .slice (none) (0) (0), .slice (none) (0) (0)], .int .i64 (0)]) en15 rfl (ap_on3 hO_177 hC z hz (by omega)) ?_
              rintro _ w_272 ⟨TC, zs1, r3, hC1, hr3a, hr3b, hTC, a_269, c_270, F_271, rfl, ho_273, hg_274, hS_275, hm_276, hap_277, K_278⟩
              have pr_279 : ∀ q_, own a_269 q_ → ¬ own a_1 q_ := apartNew hg_274 ho_4.own_lt
              have pr_280 : ∀ q_, own a_269 q_ → ¬ own a_25 q_ := apartNew hg_274 ho_28.own_lt
              have pr_281 : ∀ q_, own a_269 q_ → ¬ own a_44 q_ := apartNew hg_274 ho_47.own_lt
              have pr_282 : ∀ q_, own a_269 q_ → ¬ own a_65 q_ := apartNew hg_274 ho_68.own_lt
              have pr_283 : ∀ q_, own a_269 q_ → ¬ own a_90 q_ := apartNew hg_274 ho_94.own_lt
              have pr_284 : ∀ q_, own a_269 q_ → ¬ G1 q_ := apartNew hg_274 hO_177.own_lt
              have pr_285 : ∀ q_, own a_269 q_ → ¬ F1 q_ := apartNew hg_274 hO_178.own_lt
              have pr_286 : ∀ q_, own a_269 q_ → ¬ own aA q_ := apartNew hg_274 ho_179.own_lt
              have pr_287 : ∀ q_, own a_269 q_ → ¬ own aB q_ := apartNew hg_274 ho_180.own_lt
              have pr_288 : ∀ q_, own a_269 q_ → ¬ own aC q_ := apartNew hg_274 ho_181.own_lt
              have pr_289 : ¬ own a_269 b_247 := notNew hg_274 hb_250.lt
              have pg_290 : ∀ q_, own a_269 q_ → w.heap.size ≤ q_ := fun q_ h => Nat.le_trans K0.size (hg_274 q_ h)
              clear hg_274
              have pr_291 : ∀ q_, F_271 q_ → ¬ own a_1 q_ := hm_276.apart pr_182 ho_4.own_lt
              have pr_292 : ∀ q_, F_271 q_ → ¬ own a_25 q_ := hm_276.apart pr_183 ho_28.own_lt
              have pr_293 : ∀ q_, F_271 q_ → ¬ own a_44 q_ := hm_276.apart pr_184 ho_47.own_lt
              have pr_294 : ∀ q_, F_271 q_ → ¬ own a_65 q_ := hm_276.apart pr_185 ho_68.own_lt
              have pr_295 : ∀ q_, F_271 q_ → ¬ own a_90 q_ := hm_276.apart pr_186 ho_94.own_lt
              have pr_296 : ∀ q_, F_271 q_ → ¬ F1 q_ := hm_276.apart pr_187 hO_178.own_lt
              have pr_297 : ∀ q_, F_271 q_ → ¬ own aA q_ := hm_276.apart pr_188 ho_179.own_lt
              have pr_298 : ∀ q_, F_271 q_ → ¬ own aB q_ := hm_276.apart pr_189 ho_180.own_lt
              have pr_299 : ∀ q_, F_271 q_ → ¬ own aC q_ := hm_276.apart pr_190 ho_181.own_lt
              have pr_300 : ¬ F_271 b_247 := hm_276.not pr_258 hb_250.lt
              have pg_301 : ∀ q_, F_271 q_ → w.heap.size ≤ q_ := hm_276.ge pr_191 K0.size
              replace ho_4 := ho_4.keepO K_278 (fun q_ h1 h2 => pr_182 q_ h2 h1)
              replace ho_28 := ho_28.keepO K_278 (fun q_ h1 h2 => pr_183 q_ h2 h1)
              replace ho_47 := ho_47.keepO K_278 (fun q_ h1 h2 => pr_184 q_ h2 h1)
              replace ho_68 := ho_68.keepO K_278 (fun q_ h1 h2 => pr_185 q_ h2 h1)
              replace ho_94 := ho_94.keepO K_278 (fun q_ h1 h2 => pr_186 q_ h2 h1)
              replace hO_178 := hO_178.keepO K_278 (fun q_ h1 h2 => pr_187 q_ h2 h1)
              replace ho_179 := ho_179.keepO K_278 (fun q_ h1 h2 => pr_188 q_ h2 h1)
              replace ho_180 := ho_180.keepO K_278 (fun q_ h1 h2 => pr_189 q_ h2 h1)
              replace ho_181 := ho_181.keepO K_278 (fun q_ h1 h2 => pr_190 q_ h2 h1)
              replace hb_250 := hb_250.keep K_278 pr_258
              replace K0 := K0.new K_278 pr_191
              clear hm_276
              refine ⟨.inr ⟨hb_250, trivial⟩, ?_⟩
              have ho_302 : OwnAt w_272 46 (advA aC cC 1 17) (cC - 1) (QC.drop 1) := OwnAt.from_ ho_181 1 (by omega)
              have hsx_303 := ho_273.sl
              refine RT.st 6 rfl (by kernel_rfl) rfl <| St1.appendAt (xs := QC.drop 1) (ys := TC) Try.underlying31 ty46 rfl rfl rfl ho_302 hsx_303 (by rw [List.length_drop]; omega) (by decide) ?_
              intro a_304 c_305 w_306 ho_307 K_308 hm_309
              have pr_310 : ∀ q_, own a_304 q_ → ¬ own a_1 q_ := hm_309.apart (fun q_ h_ => pr_216 q_ (own_adv q_ h_)) ho_4.own_lt
              have pr_311 : ∀ q_, own a_304 q_ → ¬ own a_25 q_ := hm_309.apart (fun q_ h_ => pr_217 q_ (own_adv q_ h_)) ho_28.own_lt
              have pr_312 : ∀ q_, own a_304 q_ → ¬ own a_44 q_ := hm_309.apart (fun q_ h_ => pr_218 q_ (own_adv q_ h_)) ho_47.own_lt
              have pr_313 : ∀ q_, own a_304 q_ → ¬ own a_65 q_ := hm_309.apart (fun q_ h_ => pr_219 q_ (own_adv q_ h_)) ho_68.own_lt
              have pr_314 : ∀ q_, own a_304 q_ → ¬ own a_90 q_ := hm_309.apart (fun q_ h_ => pr_220 q_ (own_adv q_ h_)) ho_94.own_lt
              have pr_315 : ∀ q_, own a_304 q_ → ¬ F1 q_ := hm_309.apart (fun q_ h1 h2 => (fun q_ h1_ h2_ => pr_199 q_ h1_ (own_adv q_ h2_)) q_ h2 h1) hO_178.own_lt
              have pr_316 : ∀ q_, own a_304 q_ → ¬ own aA q_ := hm_309.apart (fun q_ h1 h2 => (fun q_ h1_ h2_ => pr_207 q_ h1_ (own_adv q_ h2_)) q_ h2 h1) ho_179.own_lt
              have pr_317 : ∀ q_, own a_304 q_ → ¬ own aB q_ := hm_309.apart (fun q_ h1 h2 => (fun q_ h1_ h2_ => pr_214 q_ h1_ (own_adv q_ h2_)) q_ h2 h1) ho_180.own_lt
              have pr_318 : ¬ own a_304 b_247 := hm_309.not (fun h_ => pr_262 (own_adv _ h_)) hb_250.lt
              have pr_319 : ∀ q_, own a_304 q_ → ¬ F_271 q_ := hm_309.apart (fun q_ h1 h2 => (fun q_ h1_ h2_ => pr_299 q_ h1_ (own_adv q_ h2_)) q_ h2 h1) hS_275.own_lt
              have pr_320 : ∀ q_, own a_304 q_ → ¬ own a_269 q_ := hm_309.apart (fun q_ h1 h2 => (fun q_ h1_ h2_ => pr_288 q_ h1_ (own_adv q_ h2_)) q_ h2 h1) ho_273.own_lt
              have pg_321 : ∀ q_, own a_304 q_ → w.heap.size ≤ q_ := hm_309.ge (fun q_ h_ => pr_221 q_ (own_adv q_ h_)) K0.size
              replace ho_4 := ho_4.keepO K_308 (fun q_ h1 h2 => (fun q_ h_ => pr_216 q_ (own_adv q_ h_)) q_ h2 h1)
              replace ho_28 := ho_28.keepO K_308 (fun q_ h1 h2 => (fun q_ h_ => pr_217 q_ (own_adv q_ h_)) q_ h2 h1)
              replace ho_47 := ho_47.keepO K_308 (fun q_ h1 h2 => (fun q_ h_ => pr_218 q_ (own_adv q_ h_)) q_ h2 h1)
              replace ho_68 := ho_68.keepO K_308 (fun q_ h1 h2 => (fun q_ h_ => pr_219 q_ (own_adv q_ h_)) q_ h2 h1)
              replace ho_94 := ho_94.keepO K_308 (fun q_ h1 h2 => (fun q_ h_ => pr_220 q_ (own_adv q_ h_)) q_ h2 h1)
              replace hO_178 := hO_178.keepO K_308 (fun q_ h1_ h2_ => pr_199 q_ h1_ (own_adv q_ h2_))
              replace ho_179 := ho_179.keepO K_308 (fun q_ h1_ h2_ => pr_207 q_ h1_ (own_adv q_ h2_))
              replace ho_180 := ho_180.keepO K_308 (fun q_ h1_ h2_ => pr_214 q_ h1_ (own_adv q_ h2_))
              replace hb_250 := hb_250.keep K_308 (fun h_ => pr_262 (own_adv _ h_))
              replace hS_275 := hS_275.keepO K_308 (fun q_ h1_ h2_ => pr_299 q_ h1_ (own_adv q_ h2_))
              replace ho_273 := ho_273.keepO K_308 (fun q_ h1_ h2_ => pr_288 q_ h1_ (own_adv q_ h2_))
              replace K0 := K0.new K_308 (fun q_ h_ => pr_221 q_ (own_adv q_ h_))
              clear hm_309
              refine ⟨.inr ⟨hb_250, trivial⟩, ?_⟩
              refine RT.takeP (v := .slice (a_304) (((QC.drop 1) ++ TC).length) (c_305)) 7 rfl (by kernel_rfl) (.inr ⟨hb_250, trivial⟩) (fun _ => (x_assignSl rfl)) ?_
              refine RT.done (by kernel_rfl) ?_
              refine Run.exit rfl ?_
              refine Run.region ?_
              refine RL.val (litI (c := ((i + 1 : Nat) : Int)) (x_add rfl rfl (by omega) (by omega)) rfl) ?_
              refine RL.val (x_moveI rfl) ?_
              refine RL.nil ?_
              refine ih1 (i + 1) _ _ ?_ (by omega)
              refine ⟨ks, rest, (delI k2 0 ++ rest2.take 1), (rest2.drop 1), xs, ys, zs1, QA, QB, (QC.drop 1 ++ TC), r1, r3, F1, F_271, aA, cA, aB, cB, a_304, c_305, ⟨rfl, rfl, rfl, rfl, rfl, rfl, rfl, rfl, trivial⟩, K0, ho_4, ho_28, ho_47, ho_68, ho_94, hS_275, hO_178, ho_179, ho_180, ho_307, pr_291, pr_292, pr_293, pr_294, pr_295, pr_296, pr_297, pr_298, (fun q_ h1 h2 => pr_319 q_ h2 h1), pg_301, pr_192, pr_193, pr_194, pr_195, pr_196, pr_197, pr_198, (fun q_ h1 h2 => pr_315 q_ h2 h1), pr_200, pr_201, pr_202, pr_203, pr_204, pr_205, pr_206, (fun q_ h1 h2 => pr_316 q_ h2 h1), pr_208, pr_209, pr_210, pr_211, pr_212, pr_213, (fun q_ h1 h2 => pr_317 q_ h2 h1), pr_215, pr_310, pr_311, pr_312, pr_313, pr_314, pg_321, ?_, ?_, ?_, ?_, ?_, ?_, ?_⟩
              · omega
              · omega
              · exact hA
              · exact hB
              · exact hC1
              · omega
              · omega
            · try simp only [br] at hc119
              refine Run.skip ?_
              refine Run.seq ?_
              refine Run.seq ?_
              refine Run.region ?_
              refine RL.val (x_moveSl rfl) ?_
              refine RL.val (x_lenSl Try.underlying31 rfl) ?_
              refine RL.val (x_eqI rfl rfl) ?_
              refine RL.nil ?_
              refine Run.cond rfl (fun hc132 => ?_) (fun hc132 => ?_)
              · try simp only [br] at hc132
                refine Run.exit rfl ?_
                refine Run.region ?_
                refine RL.val (litI (c := ((i + 1 : Nat) : Int)) (x_add rfl rfl (by omega) (by omega)) rfl) ?_
                refine RL.val (x_moveI rfl) ?_
                refine RL.nil ?_
                refine ih1 (i + 1) _ _ ?_ (by omega)
                refine ⟨ks, rest, k2, rest2, xs, ys, zs, QA, QB, QC, r1, r2, F1, G1, aA, cA, aB, cB, aC, cC, ⟨rfl, rfl, rfl, rfl, rfl, rfl, rfl, rfl, trivial⟩, K0, ho_4, ho_28, ho_47, ho_68, ho_94, hO_177, hO_178, ho_179, ho_180, ho_181, pr_182, pr_183, pr_184, pr_185, pr_186, pr_187, pr_188, pr_189, pr_190, pr_191, pr_192, pr_193, pr_194, pr_195, pr_196, pr_197, pr_198, pr_199, pr_200, pr_201, pr_202, pr_203, pr_204, pr_205, pr_206, pr_207, pr_208, pr_209, pr_210, pr_211, pr_212, pr_213, pr_214, pr_215, pr_216, pr_217, pr_218, pr_219, pr_220, pr_221, ?_, ?_, ?_, ?_, ?_, ?_, ?_⟩
                · omega
                · omega
                · exact hA
                · exact hB
                · exact hC
                · omega
                · omega
              · try simp only [br] at hc132
                refine Run.skip ?_
                refine Run.seq ?_
                have hkv := hU k (mem_of_at hk)
                obtain ⟨hwz, d, hd, hdl⟩ := dn_mod k.v hkv.1 QA.length (by omega) (by omega)
                have hd2 : IntKind.i64.wrap (k.v.tmod (IntKind.u64.wrap (QA.length : Int))) = (d : Int) := by rw [hd]; exact wrap64 _ (by omega) (by omega)
                refine Run.region ?_
                refine RL.val (x_moveI rfl) ?_
                refine RL.val (x_moveSl rfl) ?_
                refine RL.val (x_lenSl Try.underlying31 rfl) ?_
                refine RL.val (x_convI rfl ⟨_, Try.underlying3⟩ Try.underlying30) ?_
                refine RL.val (x_rem rfl rfl hwz) ?_
                refine RL.val (litI (c := (d : Int)) (x_convI rfl ⟨_, Try.underlying30⟩ Try.underlying3) hd2) ?_
                refine RL.val (x_assignI rfl) ?_
                refine RL.nil ?_
                refine Run.seq ?_
                refine Run.seq ?_
                obtain ⟨b_324, o_325, x, hx, ha_326, hc_327⟩ := ho_179.sl.el (i := d) (by first | omega | (simp only [List.length_set]; omega))
                obtain ⟨b_330, o_331, y, hy, ha_332, hc_333⟩ := ho_180.sl.el (i := d) (by first | omega | (simp only [List.length_set]; omega))
                refine Run.draw' (m := 11) (by kernel_rfl) rfl ?_
                intro w_322 K_323
                replace ho_4 := ho_4.ext K_323
                replace ho_28 := ho_28.ext K_323
                replace ho_47 := ho_47.ext K_323
                replace ho_68 := ho_68.ext K_323
                replace ho_94 := ho_94.ext K_323
                replace hO_177 := hO_177.ext K_323
                replace hO_178 := hO_178.ext K_323
                replace ho_179 := ho_179.ext K_323
                replace ho_180 := ho_180.ext K_323
                replace ho_181 := ho_181.ext K_323
                replace hc_327 := hc_327.ext K_323
                replace hc_333 := hc_333.ext K_323
                replace K0 := K0.ext K_323
                refine RA.take (v := .slice (aA) ((QA).length) (cA)) 0 rfl (by kernel_rfl) rfl (by rintro _ rfl; exact (x_moveSl rfl)) ?_
                refine RA.take (v := .int .i64 (((d : Nat) : Int))) 1 rfl (by kernel_rfl) rfl (by rintro _ rfl; exact (x_moveI rfl)) ?_
                refine RA.take (v := .pointer (some ⟨b_324, o_325 + d * 17, none⟩)) 2 rfl (by kernel_rfl) rfl (by rintro _ rfl; exact (x_idxN Try.underlying31 ty46 rfl rfl ha_326 (by first | omega | (simp only [List.length_set]; omega)))) ?_
                refine RA.take (v := .pointer (some ⟨b_324, o_325 + d * 17 + 4, none⟩)) 3 rfl (by kernel_rfl) rfl (by rintro _ rfl; exact (x_fld (o' := o_325 + d * 17 + 4) Try.underlying46 rfl ty9 rfl rfl rfl)) ?_
                refine RA.take (v := .string ((x).key)) 4 rfl (by kernel_rfl) rfl (by rintro _ rfl; exact (x_ld ty9 rfl rfl (hc_327.field (i := 4) rfl))) ?_
                refine RA.take (v := .slice (aB) ((QB).length) (cB)) 5 rfl (by kernel_rfl) rfl (by rintro _ rfl; exact (x_moveSl rfl)) ?_
                refine RA.take (v := .int .i64 (((d : Nat) : Int))) 6 rfl (by kernel_rfl) rfl (by rintro _ rfl; exact (x_moveI rfl)) ?_
                refine RA.take (v := .pointer (some ⟨b_330, o_331 + d * 17, none⟩)) 7 rfl (by kernel_rfl) rfl (by rintro _ rfl; exact (x_idxN Try.underlying31 ty46 rfl rfl ha_332 (by first | omega | (simp only [List.length_set]; omega)))) ?_
                refine RA.take (v := .pointer (some ⟨b_330, o_331 + d * 17 + 4, none⟩)) 8 rfl (by kernel_rfl) rfl (by rintro _ rfl; exact (x_fld (o' := o_331 + d * 17 + 4) Try.underlying46 rfl ty9 rfl rfl rfl)) ?_
                refine RA.take (v := .string ((y).key)) 9 rfl (by kernel_rfl) rfl (by rintro _ rfl; exact (x_ld ty9 rfl rfl (hc_333.field (i := 4) rfl))) ?_
                refine RA.take (v := .bool (!decide ((x).key = (y).key))) 10 rfl (by kernel_rfl) rfl (by rintro _ rfl; exact (x_neS rfl rfl)) ?_
                refine RA.done (by kernel_rfl) ?_
                have hxy : x.key = y.key := Option.some.inj ((hA.at hx).1.symm.trans (hB.at hy).1)
                refine Run.cond rfl (fun hc149 => ?_) (fun hc149 => ?_)
                · try simp only [br] at hc149
                  exact absurd hxy hc149
                · try simp only [br] at hc149
                  refine Run.skip ?_
                  refine Run.seq ?_
                  obtain ⟨b_338, o_339, x_342, hx_343, ha_340, hc_341⟩ := ho_179.sl.el (i := d) (by first | omega | (simp only [List.length_set]; omega))
                  obtain rfl : x = x_342 := Option.some.inj (hx.symm.trans hx_343)
                  obtain ⟨b_344, o_345, x_348, hx_349, ha_346, hc_347⟩ := ho_180.sl.el (i := d) (by first | omega | (simp only [List.length_set]; omega))
                  obtain rfl : y = x_348 := Option.some.inj (hy.symm.trans hx_349)
                  refine Run.drawT [] (m := 16) (by kernel_rfl) rfl ?_
                  intro w_336 K_337
                  replace ho_4 := ho_4.ext K_337
                  replace ho_28 := ho_28.ext K_337
                  replace ho_47 := ho_47.ext K_337
                  replace ho_68 := ho_68.ext K_337
                  replace ho_94 := ho_94.ext K_337
                  replace hO_177 := hO_177.ext K_337
                  replace hO_178 := hO_178.ext K_337
                  replace ho_179 := ho_179.ext K_337
                  replace ho_180 := ho_180.ext K_337
                  replace ho_181 := ho_181.ext K_337
                  replace hc_341 := hc_341.ext K_337
                  replace hc_347 := hc_347.ext K_337
                  replace K0 := K0.ext K_337
                  refine ⟨fun w' => Cl w' b_338 (o_339 + d * 17) (cellsOf x) ∧ Cl w' b_344 (o_345 + d * 17) (cellsOf y) ∧ True, ?_⟩
                  refine RT.takeP (v := .pointer (some ⟨s_8, 0, none⟩)) 0 rfl (by kernel_rfl) (.inr ⟨hc_341, hc_347, trivial⟩) (fun _ => (x_moveP rfl)) ?_
                  refine RT.takeP (v := .slice (aA) ((QA).length) (cA)) 1 rfl (by kernel_rfl) (.inr ⟨hc_341, hc_347, trivial⟩) (fun _ => (x_moveSl rfl)) ?_
                  refine RT.takeP (v := .int .i64 (((d : Nat) : Int))) 2 rfl (by kernel_rfl) (.inr ⟨hc_341, hc_347, trivial⟩) (fun _ => (x_moveI rfl)) ?_
                  refine RT.takeP (v := .pointer (some ⟨b_338, o_339 + d * 17, none⟩)) 3 rfl (by kernel_rfl) (.inr ⟨hc_341, hc_347, trivial⟩) (fun _ => (x_idxN Try.underlying31 ty46 rfl rfl ha_340 (by first | omega | (simp only [List.length_set]; omega)))) ?_
                  refine RT.take (v := .agg #[.int .i64 ((x).kind), .int .i64 ((x).frm), .int .i64 ((x).to), .int .i64 ((x).req), .string ((x).key), .slice (none) (0) (0), .slice (none) (0) (0), .slice (none) (0) (0), .int .i64 (0), .int .i64 ((x).part), .int .i64 (0), .int .i64 (0), .int .i64 (0), .int .i64 (0), .slice (none) (0) (0), .slice (none) (0) (0), .slice (none) (0) (0)]) 4 rfl (by kernel_rfl) ⟨hc_341, hc_347, trivial⟩ (by rintro _ ⟨hc_341, hc_347, -⟩; exact (x_ldV (v := .agg #[.int .i64 ((x).kind), .int .i64 ((x).frm), .int .i64 ((x).to), .int .i64 ((x).req), .string ((x).key), .slice (none) (0) (0), .slice (none) (0) (0), .slice (none) (0) (0), .int .i64 (0), .int .i64 ((x).part), .int .i64 (0), .int .i64 (0), .int .i64 (0), .int .i64 (0), .slice (none) (0) (0), .slice (none) (0) (0), .slice (none) (0) (0)]) (y := x) ty46 rfl hc_341 rfl)) ?_
                  refine RT.takeP (v := .pointer (some ⟨s_16, 0, none⟩)) 7 rfl (by kernel_rfl) (.inr ⟨hc_341, hc_347, trivial⟩) (fun _ => (x_moveP rfl)) ?_
                  refine RT.takeP (v := .slice (aB) ((QB).length) (cB)) 8 rfl (by kernel_rfl) (.inr ⟨hc_341, hc_347, trivial⟩) (fun _ => (x_moveSl rfl)) ?_
                  refine RT.takeP (v := .int .i64 (((d : Nat) : Int))) 9 rfl (by kernel_rfl) (.inr ⟨hc_341, hc_347, trivial⟩) (fun _ => (x_moveI rfl)) ?_
                  refine RT.takeP (v := .pointer (some ⟨b_344, o_345 + d * 17, none⟩)) 10 rfl (by kernel_rfl) (.inr ⟨hc_341, hc_347, trivial⟩) (fun _ => (x_idxN Try.underlying31 ty46 rfl rfl ha_346 (by first | omega | (simp only [List.length_set]; omega)))) ?_
                  refine RT.take (v := .agg #[.int .i64 ((y).kind), .int .i64 ((y).frm), .int .i64 ((y).to), .int .i64 ((y).req), .string ((y).key), .slice (none) (0) (0), .slice (none) (0) (0), .slice (none) (0) (0), .int .i64 (0), .int .i64 ((y).part), .int .i64 (0), .int .i64 (0), .int .i64 (0), .int .i64 (0), .slice (none) (0) (0), .slice (none) (0) (0), .slice (none) (0) (0)]) 11 rfl (by kernel_rfl) ⟨hc_341, hc_347, trivial⟩ (by rintro _ ⟨hc_341, hc_347, -⟩; exact (x_ldV (v := .agg #[.int .i64 ((y).kind), .int .i64 ((y).frm), .int .i64 ((y).to), .int .i64 ((y).req), .string ((y).key), .slice (none) (0) (0), .slice (none) (0) (0), .slice (none) (0) (0), .int .i64 (0), .int .i64 ((y).part), .int .i64 (0), .int .i64 (0), .int .i64 (0), .int .i64 (0), .slice (none) (0) (0), .slice (none) (0) (0), .slice (none) (0) (0)]) (y := y) ty46 rfl hc_347 rfl)) ?_
                  refine RT.st 5 rfl (by kernel_rfl) rfl <| St1.call (vals := [.agg #[.int .i64 ((x).kind), .int .i64 ((x).frm), .int .i64 ((x).to), .int .i64 ((x).req), .string ((x).key), .slice (none) (0) (0), .slice (none) (0) (0), .slice (none) (0) (0), .int .i64 (0), .int .i64 ((x).part), .int .i64 (0), .int .i64 (0), .int .i64 (0), .int .i64 (0), .slice (none) (0) (0), .slice (none) (0) (0), .slice (none) (0) (0)]]) en16 rfl (handed_ x _) ?_
                  rintro _ w_350 ⟨rfl, K_351⟩
                  replace ho_4 := ho_4.ext K_351
                  replace ho_28 := ho_28.ext K_351
                  replace ho_47 := ho_47.ext K_351
                  replace ho_68 := ho_68.ext K_351
                  replace ho_94 := ho_94.ext K_351
                  replace hO_177 := hO_177.ext K_351
                  replace hO_178 := hO_178.ext K_351
                  replace ho_179 := ho_179.ext K_351
                  replace ho_180 := ho_180.ext K_351
                  replace ho_181 := ho_181.ext K_351
                  replace hc_341 := hc_341.ext K_351
                  replace hc_347 := hc_347.ext K_351
                  replace K0 := K0.ext K_351
                  refine ⟨.inr ⟨hc_341, hc_347, trivial⟩, ?_⟩
                  refine RT.st 6 rfl (by kernel_rfl) rfl <| St1.call (vals := [.pointer (some ⟨s_8, 0, none⟩), .agg #[.int .i64 (((handedM x)).kind), .int .i64 (((handedM x)).frm), .int .i64 (((handedM x)).to), .int .i64 (((handedM x)).req), .string (((handedM x)).key), .slice (none) (0) (0), .slice (none) (0) (0), .slice (none) (0) (0), .int .i64 (0), .int .i64 (((handedM x)).part), .int .i64 (0), .int .i64 (0), .int .i64 (0), .int .i64 (0), .slice (none) (0) (0), .slice (none) (0) (0), .slice (none) (0) (0)], .int .i64 (0)]) en15 rfl (ap_on1 hO_178 hA x hx (by omega)) ?_
                  rintro _ w_355 ⟨TA, xs1, r3, hA1, hr3a, hr3b, hTA, a_352, c_353, F_354, rfl, ho_356, hg_357, hS_358, hm_359, hap_360, K_361⟩
                  have pr_362 : ∀ q_, own a_352 q_ → ¬ own a_1 q_ := apartNew hg_357 ho_4.own_lt
                  have pr_363 : ∀ q_, own a_352 q_ → ¬ own a_25 q_ := apartNew hg_357 ho_28.own_lt
                  have pr_364 : ∀ q_, own a_352 q_ → ¬ own a_44 q_ := apartNew hg_357 ho_47.own_lt
                  have pr_365 : ∀ q_, own a_352 q_ → ¬ own a_65 q_ := apartNew hg_357 ho_68.own_lt
                  have pr_366 : ∀ q_, own a_352 q_ → ¬ own a_90 q_ := apartNew hg_357 ho_94.own_lt
                  have pr_367 : ∀ q_, own a_352 q_ → ¬ G1 q_ := apartNew hg_357 hO_177.own_lt
                  have pr_368 : ∀ q_, own a_352 q_ → ¬ F1 q_ := apartNew hg_357 hO_178.own_lt
                  have pr_369 : ∀ q_, own a_352 q_ → ¬ own aA q_ := apartNew hg_357 ho_179.own_lt
                  have pr_370 : ∀ q_, own a_352 q_ → ¬ own aB q_ := apartNew hg_357 ho_180.own_lt
                  have pr_371 : ∀ q_, own a_352 q_ → ¬ own aC q_ := apartNew hg_357 ho_181.own_lt
                  have pg_372 : ∀ q_, own a_352 q_ → w.heap.size ≤ q_ := fun q_ h => Nat.le_trans K0.size (hg_357 q_ h)
                  clear hg_357
                  have pr_373 : ∀ q_, F_354 q_ → ¬ own a_1 q_ := hm_359.apart pr_192 ho_4.own_lt
                  have pr_374 : ∀ q_, F_354 q_ → ¬ own a_25 q_ := hm_359.apart pr_193 ho_28.own_lt
                  have pr_375 : ∀ q_, F_354 q_ → ¬ own a_44 q_ := hm_359.apart pr_194 ho_47.own_lt
                  have pr_376 : ∀ q_, F_354 q_ → ¬ own a_65 q_ := hm_359.apart pr_195 ho_68.own_lt
                  have pr_377 : ∀ q_, F_354 q_ → ¬ own a_90 q_ := hm_359.apart pr_196 ho_94.own_lt
                  have pr_378 : ∀ q_, F_354 q_ → ¬ G1 q_ := hm_359.apart (fun q_ h1 h2 => pr_187 q_ h2 h1) hO_177.own_lt
                  have pr_379 : ∀ q_, F_354 q_ → ¬ own aA q_ := hm_359.apart pr_197 ho_179.own_lt
                  have pr_380 : ∀ q_, F_354 q_ → ¬ own aB q_ := hm_359.apart pr_198 ho_180.own_lt
                  have pr_381 : ∀ q_, F_354 q_ → ¬ own aC q_ := hm_359.apart pr_199 ho_181.own_lt
                  have pg_382 : ∀ q_, F_354 q_ → w.heap.size ≤ q_ := hm_359.ge pr_200 K0.size
                  replace ho_4 := ho_4.keepO K_361 (fun q_ h1 h2 => pr_192 q_ h2 h1)
                  replace ho_28 := ho_28.keepO K_361 (fun q_ h1 h2 => pr_193 q_ h2 h1)
                  replace ho_47 := ho_47.keepO K_361 (fun q_ h1 h2 => pr_194 q_ h2 h1)
                  replace ho_68 := ho_68.keepO K_361 (fun q_ h1 h2 => pr_195 q_ h2 h1)
                  replace ho_94 := ho_94.keepO K_361 (fun q_ h1 h2 => pr_196 q_ h2 h1)
                  replace hO_177 := hO_177.keepO K_361 pr_187
                  replace ho_179 := ho_179.keepO K_361 (fun q_ h1 h2 => pr_197 q_ h2 h1)
                  replace ho_180 := ho_180.keepO K_361 (fun q_ h1 h2 => pr_198 q_ h2 h1)
                  replace ho_181 := ho_181.keepO K_361 (fun q_ h1 h2 => pr_199 q_ h2 h1)
                  replace hc_341 := hc_341.keep K_361 (fun h => (fun q_ h1 h2 => pr_197 q_ h2 h1) _ ((own_sub _) _ ha_340) h)
                  replace hc_347 := hc_347.keep K_361 (fun h => (fun q_ h1 h2 => pr_198 q_ h2 h1) _ ((own_sub _) _ ha_346) h)
                  replace K0 := K0.new K_361 pr_200
                  clear hm_359
                  refine ⟨.inr ⟨hc_341, hc_347, trivial⟩, ?_⟩
                  refine RT.st 12 rfl (by kernel_rfl) rfl <| St1.call (vals := [.agg #[.int .i64 ((y).kind), .int .i64 ((y).frm), .int .i64 ((y).to), .int .i64 ((y).req), .string ((y).key), .slice (none) (0) (0), .slice (none) (0) (0), .slice (none) (0) (0), .int .i64 (0), .int .i64 ((y).part), .int .i64 (0), .int .i64 (0), .int .i64 (0), .int .i64 (0), .slice (none) (0) (0), .slice (none) (0) (0), .slice (none) (0) (0)]]) en16 rfl (handed_ y _) ?_
                  rintro _ w_383 ⟨rfl, K_384⟩
                  replace ho_4 := ho_4.ext K_384
                  replace ho_28 := ho_28.ext K_384
                  replace ho_47 := ho_47.ext K_384
                  replace ho_68 := ho_68.ext K_384
                  replace ho_94 := ho_94.ext K_384
                  replace hO_177 := hO_177.ext K_384
                  replace ho_179 := ho_179.ext K_384
                  replace ho_180 := ho_180.ext K_384
                  replace ho_181 := ho_181.ext K_384
                  replace hc_341 := hc_341.ext K_384
                  replace hc_347 := hc_347.ext K_384
                  replace hS_358 := hS_358.ext K_384
                  replace ho_356 := ho_356.ext K_384
                  replace K0 := K0.ext K_384
                  refine ⟨.inr ⟨hc_341, hc_347, trivial⟩, ?_⟩
                  refine RT.st 13 rfl (by kernel_rfl) rfl <| St1.call (vals := [.pointer (some ⟨s_16, 0, none⟩), .agg #[.int .i64 (((handedM y)).kind), .int .i64 (((handedM y)).frm), .int .i64 (((handedM y)).to), .int .i64 (((handedM y)).req), .string (((handedM y)).key), .slice (none) (0) (0), .slice (none) (0) (0), .slice (none) (0) (0), .int .i64 (0), .int .i64 (((handedM y)).part), .int .i64 (0), .int .i64 (0), .int .i64 (0), .int .i64 (0), .slice (none) (0) (0), .slice (none) (0) (0), .slice (none) (0) (0)], .int .i64 (0)]) en15 rfl (ap_on2 hO_177 hB y hy (by omega)) ?_
                  rintro _ w_388 ⟨TB, ys1, r4, hB1, hr4a, hr4b, hTB, a_385, c_386, F_387, rfl, ho_389, hg_390, hS_391, hm_392, hap_393, K_394⟩
                  have pr_395 : ∀ q_, own a_385 q_ → ¬ own a_1 q_ := apartNew hg_390 ho_4.own_lt
                  have pr_396 : ∀ q_, own a_385 q_ → ¬ own a_25 q_ := apartNew hg_390 ho_28.own_lt
                  have pr_397 : ∀ q_, own a_385 q_ → ¬ own a_44 q_ := apartNew hg_390 ho_47.own_lt
                  have pr_398 : ∀ q_, own a_385 q_ → ¬ own a_65 q_ := apartNew hg_390 ho_68.own_lt
                  have pr_399 : ∀ q_, own a_385 q_ → ¬ own a_90 q_ := apartNew hg_390 ho_94.own_lt
                  have pr_400 : ∀ q_, own a_385 q_ → ¬ G1 q_ := apartNew hg_390 hO_177.own_lt
                  have pr_401 : ∀ q_, own a_385 q_ → ¬ own aA q_ := apartNew hg_390 ho_179.own_lt
                  have pr_402 : ∀ q_, own a_385 q_ → ¬ own aB q_ := apartNew hg_390 ho_180.own_lt
                  have pr_403 : ∀ q_, own a_385 q_ → ¬ own aC q_ := apartNew hg_390 ho_181.own_lt
                  have pr_404 : ∀ q_, own a_385 q_ → ¬ F_354 q_ := apartNew hg_390 hS_358.own_lt
                  have pr_405 : ∀ q_, own a_385 q_ → ¬ own a_352 q_ := apartNew hg_390 ho_356.own_lt
                  have pg_406 : ∀ q_, own a_385 q_ → w.heap.size ≤ q_ := fun q_ h => Nat.le_trans K0.size (hg_390 q_ h)
                  clear hg_390
                  have pr_407 : ∀ q_, F_387 q_ → ¬ own a_1 q_ := hm_392.apart pr_182 ho_4.own_lt
                  have pr_408 : ∀ q_, F_387 q_ → ¬ own a_25 q_ := hm_392.apart pr_183 ho_28.own_lt
                  have pr_409 : ∀ q_, F_387 q_ → ¬ own a_44 q_ := hm_392.apart pr_184 ho_47.own_lt
                  have pr_410 : ∀ q_, F_387 q_ → ¬ own a_65 q_ := hm_392.apart pr_185 ho_68.own_lt
                  have pr_411 : ∀ q_, F_387 q_ → ¬ own a_90 q_ := hm_392.apart pr_186 ho_94.own_lt
                  have pr_412 : ∀ q_, F_387 q_ → ¬ own aA q_ := hm_392.apart pr_188 ho_179.own_lt
                  have pr_413 : ∀ q_, F_387 q_ → ¬ own aB q_ := hm_392.apart pr_189 ho_180.own_lt
                  have pr_414 : ∀ q_, F_387 q_ → ¬ own aC q_ := hm_392.apart pr_190 ho_181.own_lt
                  have pr_415 : ∀ q_, F_387 q_ → ¬ F_354 q_ := hm_392.apart (fun q_ h1 h2 => pr_378 q_ h2 h1) hS_358.own_lt
                  have pr_416 : ∀ q_, F_387 q_ → ¬ own a_352 q_ := hm_392.apart (fun q_ h1 h2 => pr_367 q_ h2 h1) ho_356.own_lt
                  have pg_417 : ∀ q_, F_387 q_ → w.heap.size ≤ q_ := hm_392.ge pr_191 K0.size
                  replace ho_4 := ho_4.keepO K_394 (fun q_ h1 h2 => pr_182 q_ h2 h1)
                  replace ho_28 := ho_28.keepO K_394 (fun q_ h1 h2 => pr_183 q_ h2 h1)
                  replace ho_47 := ho_47.keepO K_394 (fun q_ h1 h2 => pr_184 q_ h2 h1)
                  replace ho_68 := ho_68.keepO K_394 (fun q_ h1 h2 => pr_185 q_ h2 h1)
                  replace ho_94 := ho_94.keepO K_394 (fun q_ h1 h2 => pr_186 q_ h2 h1)
                  replace ho_179 := ho_179.keepO K_394 (fun q_ h1 h2 => pr_188 q_ h2 h1)
                  replace ho_180 := ho_180.keepO K_394 (fun q_ h1 h2 => pr_189 q_ h2 h1)
                  replace ho_181 := ho_181.keepO K_394 (fun q_ h1 h2 => pr_190 q_ h2 h1)
                  replace hc_341 := hc_341.keep K_394 (fun h => (fun q_ h1 h2 => pr_188 q_ h2 h1) _ ((own_sub _) _ ha_340) h)
                  replace hc_347 := hc_347.keep K_394 (fun h => (fun q_ h1 h2 => pr_189 q_ h2 h1) _ ((own_sub _) _ ha_346) h)
                  replace hS_358 := hS_358.keepO K_394 pr_378
                  replace ho_356 := ho_356.keepO K_394 pr_367
                  replace K0 := K0.new K_394 pr_191
                  clear hm_392
                  refine ⟨.inr ⟨hc_341, hc_347, trivial⟩, ?_⟩
                  refine RT.takeP (v := .slice (a_352) (TA.length) (c_353)) 14 rfl (by kernel_rfl) (.inr ⟨hc_341, hc_347, trivial⟩) (fun _ => (x_assignSl rfl)) ?_
                  refine RT.takeP (v := .slice (a_385) (TB.length) (c_386)) 15 rfl (by kernel_rfl) (.inr ⟨hc_341, hc_347, trivial⟩) (fun _ => (x_assignSl rfl)) ?_
                  refine RT.done (by kernel_rfl) ?_
                  have hdA := delI_len QA d
                  have hdB := delI_len QB d
                  refine Run.region ?_
                  refine RL.val (x_moveSl rfl) ?_
                  refine RL.val (x_moveI rfl) ?_
                  refine RL.val (x_moveI rfl) ?_
                  refine RL.val (litI (c := ((d + 1 : Nat) : Int)) (x_add rfl rfl (by omega) (by omega)) rfl) ?_
                  refine RL.st rfl <| St1.call (vals := [.slice (aA) ((QA).length) (cA), .int .i64 (((d : Nat) : Int)), .int .i64 (((d + 1 : Nat) : Int))]) en26 rfl (delete_msg _ _ _ d _ ho_179 (by omega) (by omega)) ?_
                  rintro _ w_418 ⟨rfl, ho_419, K_420⟩
                  replace ho_4 := ho_4.keepO K_420 (fun q_ h1 h2 => pr_201 q_ h2 h1)
                  replace ho_28 := ho_28.keepO K_420 (fun q_ h1 h2 => pr_202 q_ h2 h1)
                  replace ho_47 := ho_47.keepO K_420 (fun q_ h1 h2 => pr_203 q_ h2 h1)
                  replace ho_68 := ho_68.keepO K_420 (fun q_ h1 h2 => pr_204 q_ h2 h1)
                  replace ho_94 := ho_94.keepO K_420 (fun q_ h1 h2 => pr_205 q_ h2 h1)
                  replace ho_180 := ho_180.keepO K_420 (fun q_ h1 h2 => pr_206 q_ h2 h1)
                  replace ho_181 := ho_181.keepO K_420 (fun q_ h1 h2 => pr_207 q_ h2 h1)
                  replace hS_358 := hS_358.keepO K_420 pr_379
                  replace ho_356 := ho_356.keepO K_420 pr_369
                  replace hS_391 := hS_391.keepO K_420 pr_412
                  replace ho_389 := ho_389.keepO K_420 pr_401
                  replace K0 := K0.new K_420 pr_208
                  replace ho_179 := ho_419
                  clear ho_419
                  replace ho_179 : OwnSl w_418 46 aA cA (delI QA d) := ho_179
                  refine RL.val (x_moveSl rfl) ?_
                  refine RL.st rfl <| St1.append (xs := delI QA d) (ys := TA) Try.underlying31 ty46 rfl rfl rfl ho_179 ho_356.sl (by first | omega | (simp only [lr]; omega)) (by decide) ?_
                  intro a_421 c_422 w_423 ho_424 K_425 hm_426 hrm_427
                  have pr_428 : ∀ q_, own a_421 q_ → ¬ own a_1 q_ := hm_426.apart pr_201 ho_4.own_lt
                  have pr_429 : ∀ q_, own a_421 q_ → ¬ own a_25 q_ := hm_426.apart pr_202 ho_28.own_lt
                  have pr_430 : ∀ q_, own a_421 q_ → ¬ own a_44 q_ := hm_426.apart pr_203 ho_47.own_lt
                  have pr_431 : ∀ q_, own a_421 q_ → ¬ own a_65 q_ := hm_426.apart pr_204 ho_68.own_lt
                  have pr_432 : ∀ q_, own a_421 q_ → ¬ own a_90 q_ := hm_426.apart pr_205 ho_94.own_lt
                  have pr_433 : ∀ q_, own a_421 q_ → ¬ own aB q_ := hm_426.apart pr_206 ho_180.own_lt
                  have pr_434 : ∀ q_, own a_421 q_ → ¬ own aC q_ := hm_426.apart pr_207 ho_181.own_lt
                  have pr_435 : ∀ q_, own a_421 q_ → ¬ F_354 q_ := hm_426.apart (fun q_ h1 h2 => pr_379 q_ h2 h1) hS_358.own_lt
                  have pr_436 : ∀ q_, own a_421 q_ → ¬ own a_352 q_ := hm_426.apart (fun q_ h1 h2 => pr_369 q_ h2 h1) ho_356.own_lt
                  have pr_437 : ∀ q_, own a_421 q_ → ¬ F_387 q_ := hm_426.apart (fun q_ h1 h2 => pr_412 q_ h2 h1) hS_391.own_lt
                  have pr_438 : ∀ q_, own a_421 q_ → ¬ own a_385 q_ := hm_426.apart (fun q_ h1 h2 => pr_401 q_ h2 h1) ho_389.own_lt
                  have pg_439 : ∀ q_, own a_421 q_ → w.heap.size ≤ q_ := hm_426.ge pr_208 K0.size
                  replace ho_4 := ho_4.keepO K_425 (fun q_ h1 h2 => pr_201 q_ h2 h1)
                  replace ho_28 := ho_28.keepO K_425 (fun q_ h1 h2 => pr_202 q_ h2 h1)
                  replace ho_47 := ho_47.keepO K_425 (fun q_ h1 h2 => pr_203 q_ h2 h1)
                  replace ho_68 := ho_68.keepO K_425 (fun q_ h1 h2 => pr_204 q_ h2 h1)
                  replace ho_94 := ho_94.keepO K_425 (fun q_ h1 h2 => pr_205 q_ h2 h1)
                  replace ho_180 := ho_180.keepO K_425 (fun q_ h1 h2 => pr_206 q_ h2 h1)
                  replace ho_181 := ho_181.keepO K_425 (fun q_ h1 h2 => pr_207 q_ h2 h1)
                  replace hS_358 := hS_358.keepO K_425 pr_379
                  replace ho_356 := ho_356.keepO K_425 pr_369
                  replace hS_391 := hS_391.keepO K_425 pr_412
                  replace ho_389 := ho_389.keepO K_425 pr_401
                  replace K0 := K0.new K_425 pr_208
                  clear hm_426
                  clear hrm_427
                  refine RL.val (x_moveSl rfl) ?_
                  refine RL.val (x_moveI rfl) ?_
                  refine RL.val (x_moveI rfl) ?_
                  refine RL.val (litI (c := ((d + 1 : Nat) : Int)) (x_add rfl rfl (by omega) (by omega)) rfl) ?_
                  refine RL.st rfl <| St1.call (vals := [.slice (aB) ((QB).length) (cB), .int .i64 (((d : Nat) : Int)), .int .i64 (((d + 1 : Nat) : Int))]) en26 rfl (delete_msg _ _ _ d _ ho_180 (by omega) (by omega)) ?_
                  rintro _ w_440 ⟨rfl, ho_441, K_442⟩
                  replace ho_4 := ho_4.keepO K_442 (fun q_ h1 h2 => pr_209 q_ h2 h1)
                  replace ho_28 := ho_28.keepO K_442 (fun q_ h1 h2 => pr_210 q_ h2 h1)
                  replace ho_47 := ho_47.keepO K_442 (fun q_ h1 h2 => pr_211 q_ h2 h1)
                  replace ho_68 := ho_68.keepO K_442 (fun q_ h1 h2 => pr_212 q_ h2 h1)
                  replace ho_94 := ho_94.keepO K_442 (fun q_ h1 h2 => pr_213 q_ h2 h1)
                  replace ho_181 := ho_181.keepO K_442 (fun q_ h1 h2 => pr_214 q_ h2 h1)
                  replace hS_358 := hS_358.keepO K_442 pr_380
                  replace ho_356 := ho_356.keepO K_442 pr_370
                  replace hS_391 := hS_391.keepO K_442 pr_413
                  replace ho_389 := ho_389.keepO K_442 pr_402
                  replace ho_424 := ho_424.keepO K_442 pr_433
                  replace K0 := K0.new K_442 pr_215
                  replace ho_180 := ho_441
                  clear ho_441
                  replace ho_180 : OwnSl w_440 46 aB cB (delI QB d) := ho_180
                  refine RL.val (x_moveSl rfl) ?_
                  refine RL.st rfl <| St1.append (xs := delI QB d) (ys := TB) Try.underlying31 ty46 rfl rfl rfl ho_180 ho_389.sl (by first | omega | (simp only [lr]; omega)) (by decide) ?_
                  intro a_443 c_444 w_445 ho_446 K_447 hm_448 hrm_449
                  have pr_450 : ∀ q_, own a_443 q_ → ¬ own a_1 q_ := hm_448.apart pr_209 ho_4.own_lt
                  have pr_451 : ∀ q_, own a_443 q_ → ¬ own a_25 q_ := hm_448.apart pr_210 ho_28.own_lt
                  have pr_452 : ∀ q_, own a_443 q_ → ¬ own a_44 q_ := hm_448.apart pr_211 ho_47.own_lt
                  have pr_453 : ∀ q_, own a_443 q_ → ¬ own a_65 q_ := hm_448.apart pr_212 ho_68.own_lt
                  have pr_454 : ∀ q_, own a_443 q_ → ¬ own a_90 q_ := hm_448.apart pr_213 ho_94.own_lt
                  have pr_455 : ∀ q_, own a_443 q_ → ¬ own aC q_ := hm_448.apart pr_214 ho_181.own_lt
                  have pr_456 : ∀ q_, own a_443 q_ → ¬ F_354 q_ := hm_448.apart (fun q_ h1 h2 => pr_380 q_ h2 h1) hS_358.own_lt
                  have pr_457 : ∀ q_, own a_443 q_ → ¬ own a_352 q_ := hm_448.apart (fun q_ h1 h2 => pr_370 q_ h2 h1) ho_356.own_lt
                  have pr_458 : ∀ q_, own a_443 q_ → ¬ F_387 q_ := hm_448.apart (fun q_ h1 h2 => pr_413 q_ h2 h1) hS_391.own_lt
                  have pr_459 : ∀ q_, own a_443 q_ → ¬ own a_385 q_ := hm_448.apart (fun q_ h1 h2 => pr_402 q_ h2 h1) ho_389.own_lt
                  have pr_460 : ∀ q_, own a_443 q_ → ¬ own a_421 q_ := hm_448.apart (fun q_ h1 h2 => pr_433 q_ h2 h1) ho_424.own_lt
                  have pg_461 : ∀ q_, own a_443 q_ → w.heap.size ≤ q_ := hm_448.ge pr_215 K0.size
                  replace ho_4 := ho_4.keepO K_447 (fun q_ h1 h2 => pr_209 q_ h2 h1)
                  replace ho_28 := ho_28.keepO K_447 (fun q_ h1 h2 => pr_210 q_ h2 h1)
                  replace ho_47 := ho_47.keepO K_447 (fun q_ h1 h2 => pr_211 q_ h2 h1)
                  replace ho_68 := ho_68.keepO K_447 (fun q_ h1 h2 => pr_212 q_ h2 h1)
                  replace ho_94 := ho_94.keepO K_447 (fun q_ h1 h2 => pr_213 q_ h2 h1)
                  replace ho_181 := ho_181.keepO K_447 (fun q_ h1 h2 => pr_214 q_ h2 h1)
                  replace hS_358 := hS_358.keepO K_447 pr_380
                  replace ho_356 := ho_356.keepO K_447 pr_370
                  replace hS_391 := hS_391.keepO K_447 pr_413
                  replace ho_389 := ho_389.keepO K_447 pr_402
                  replace ho_424 := ho_424.keepO K_447 pr_433
                  replace K0 := K0.new K_447 pr_215
                  clear hm_448
                  clear hrm_449
                  refine RL.val (x_assignSl rfl) ?_
                  refine RL.val (x_assignSl rfl) ?_
                  refine RL.nil ?_
                  refine Run.inBlock ?_
                  refine Run.region ?_
                  refine RL.val (litI (c := ((i + 1 : Nat) : Int)) (x_add rfl rfl (by omega) (by omega)) rfl) ?_
                  refine RL.val (x_moveI rfl) ?_
                  refine RL.nil ?_
                  refine ih1 (i + 1) _ _ ?_ (by omega)
                  refine ⟨(delI ks d ++ rest.take 1), (rest.drop 1), k2, rest2, xs1, ys1, zs, (delI QA d ++ TA), (delI QB d ++ TB), QC, r3, r4, F_354, F_387, a_421, c_422, a_443, c_444, aC, cC, ⟨rfl, rfl, rfl, rfl, rfl, rfl, rfl, rfl, trivial⟩, K0, ho_4, ho_28, ho_47, ho_68, ho_94, hS_391, hS_358, ho_424, ho_446, ho_181, pr_407, pr_408, pr_409, pr_410, pr_411, pr_415, (fun q_ h1 h2 => pr_437 q_ h2 h1), (fun q_ h1 h2 => pr_458 q_ h2 h1), pr_414, pg_417, pr_373, pr_374, pr_375, pr_376, pr_377, (fun q_ h1 h2 => pr_435 q_ h2 h1), (fun q_ h1 h2 => pr_456 q_ h2 h1), pr_381, pg_382, pr_428, pr_429, pr_430, pr_431, pr_432, (fun q_ h1 h2 => pr_460 q_ h2 h1), pr_434, pg_439, pr_450, pr_451, pr_452, pr_453, pr_454, pr_455, pg_461, pr_216, pr_217, pr_218, pr_219, pr_220, pr_221, ?_, ?_, ?_, ?_, ?_, ?_, ?_⟩
                  · omega
                  · omega
                  · exact hA1
                  · exact hB1
                  · exact hC
                  · omega
                  · omega
      · try simp only [br] at hc87
        refine Run.exit rfl ?_
        refine Run.seq ?_
        obtain ⟨qa1, qa2⟩ := hA.lens
        obtain ⟨qb1, qb2⟩ := hB.lens
        refine Run.region ?_
        refine RL.val (x_moveSl rfl) ?_
        refine RL.val (x_lenSl Try.underlying31 rfl) ?_
        refine RL.val (x_moveSl rfl) ?_
        refine RL.val (x_lenSl Try.underlying31 rfl) ?_
        refine RL.val (x_eqI rfl rfl) ?_
        refine RL.val (x_moveB rfl) ?_
        refine RL.gval (wantedT rfl rfl rfl rfl) (fun hg => (x_moveP rfl)) ?_
        refine RL.gcall (vals := [.pointer (some ⟨s_8, 0, none⟩), .int .i64 (1), .int .i64 (1)]) (wantedT rfl rfl rfl rfl) en17 (fun hg => (mcons (gvr hg) (mcons rfl (mcons rfl mnil)))) (fun hg => (ap_left1 hO_178 (by simp))) ?_
        intro w_462 K_463
        replace ho_4 := ho_4.ext K_463
        replace ho_28 := ho_28.ext K_463
        replace ho_47 := ho_47.ext K_463
        replace ho_68 := ho_68.ext K_463
        replace ho_94 := ho_94.ext K_463
        replace hO_177 := hO_177.ext K_463
        replace hO_178 := hO_178.ext K_463
        replace ho_179 := ho_179.ext K_463
        replace ho_180 := ho_180.ext K_463
        replace ho_181 := ho_181.ext K_463
        replace K0 := K0.ext K_463
        refine RL.gval (wantedT rfl rfl rfl rfl) (fun hg => (x_moveP rfl)) ?_
        refine RL.gcall (vals := [.pointer (some ⟨s_16, 0, none⟩), .int .i64 (1), .int .i64 (1)]) (wantedT rfl rfl rfl rfl) en17 (fun hg => (mcons (gvr hg) (mcons rfl (mcons rfl mnil)))) (fun hg => (ap_left1 hO_177 (by simp))) ?_
        intro w_464 K_465
        replace ho_4 := ho_4.ext K_465
        replace ho_28 := ho_28.ext K_465
        replace ho_47 := ho_47.ext K_465
        replace ho_68 := ho_68.ext K_465
        replace ho_94 := ho_94.ext K_465
        replace hO_177 := hO_177.ext K_465
        replace hO_178 := hO_178.ext K_465
        replace ho_179 := ho_179.ext K_465
        replace ho_180 := ho_180.ext K_465
        replace ho_181 := ho_181.ext K_465
        replace K0 := K0.ext K_465
        refine RL.gval (wantedT rfl rfl rfl rfl) (fun hg => (x_eqI (gvr hg) (gvr hg))) ?_
        refine RL.val (x_and rfl rfl rfl) ?_
        refine RL.val (x_assignB rfl) ?_
        refine RL.nil ?_
        refine Run.ret1 (v := .bool (((((QA).length : Nat) : Int) == (((QB).length : Nat) : Int)) && (((xs.length : Nat) : Int) == ((ys.length : Nat) : Int)))) Try.func6 rfl rfl ?_
        exact ⟨_, rfl, congrArg Value.bool (by rw [Bool.and_eq_true, beq_iff_eq, beq_iff_eq]; omega), K0⟩

end Go.Proofs.Ythhhkjmlnjbnjaa
