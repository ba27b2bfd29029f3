/-
  HandoffAll.
-/
import Derived.Test.YthhhkjmlnjbnjaaRows
import Derived.Test.YthhhkjmlnjbnjaaOj
import Derived.Test.YthhhkjmlnjbnjaaTail
namespace Go.Proofs.Ythhhkjmlnjbnjaa
attribute [local irreducible] St1 RL RA RT RT1 Run

theorem mod_n {u m : Int} (h0 : 0 ≤ u) (hm : 0 < m) (hm2 : m ≤ 1099511627776) : ∃ n : Int, IntKind.i64.wrap (u.tmod m) = n ∧ 0 ≤ n ∧ n < m := by
  have h1 : 0 ≤ u.tmod m := Int.tmod_nonneg _ h0
  have h2 : u.tmod m < m := Int.tmod_lt_of_pos _ hm
  exact ⟨_, wrap64 _ (by omega) (by omega), h1, h2⟩
theorem fold_full {now : Int} : ∀ (xs : List Item) (s : Sd), 4 ≤ s.c → xs.foldl (sdStep now) s = ⟨s.c, s.r, s.L ++ xs, s.T⟩
  | [], s, _ => by simp
  | x :: xs, s, h => by
    rw [List.foldl_cons, sdStep, if_pos (.inr h), fold_full xs ⟨s.c, s.r, s.L ++ [x], s.T⟩ h]
    simp
theorem newI_cons (k : ByteArray) (l : List ByteArray) : newI (k :: l) = ⟨k, 0, -1⟩ :: newI l := rfl
theorem newI_app (a b : List ByteArray) : newI (a ++ b) = newI a ++ newI b := List.map_append
theorem aged_newI {now : Int} (l : List ByteArray) : agedL now (newI l) = newI l := by
  rw [agedL]
  exact (List.map_congr_left fun x hx => by obtain ⟨k, _, rfl⟩ := List.mem_map.1 hx; exact age_no (by simp)).trans (List.map_id'' (fun _ => rfl) _)
theorem aged_app {now : Int} (a b : List Item) : agedL now (a ++ b) = agedL now a ++ agedL now b := List.map_append
theorem aged_wait {now : Int} {xs : List Item} (h : ∀ x ∈ xs, 0 ≤ x.since ∧ now - x.since < 1000) : agedL now xs = xs := by
  rw [agedL]
  exact (List.map_congr_left fun x hx => age_no (by have := h x hx; omega)).trans (List.map_id'' (fun _ => rfl) _)
theorem cnt_newI (l : List ByteArray) : (newI l).countP sentI = 0 := List.countP_eq_zero.2 fun x hx => by obtain ⟨k, _, rfl⟩ := List.mem_map.1 hx; simp [sentI]
theorem newI_unsent (l : List ByteArray) : ∀ x ∈ newI l, x.since < 0 := fun x hx => by obtain ⟨k, _, rfl⟩ := List.mem_map.1 hx; show (-1 : Int) < 0; omega
/-- the first telling -/
theorem tell_first {now r : Int} (l : List ByteArray) : tellP now r (newI l) = ⟨min l.length 4, r + (min l.length 4 : Nat), numL now r (l.take 4) ++ newI (l.drop 4), numL now r (l.take 4)⟩ := by
  rw [tell_fold, aged_newI, cnt_newI]
  have e : newI l = newI (l.take 4) ++ newI (l.drop 4) := by rw [← newI_app, List.take_append_drop]
  have hl : (newI (l.take 4)).length = min l.length 4 := by rw [newI_len, List.length_take, Nat.min_comm]
  rw [e, List.foldl_append, fold_new (newI (l.take 4)) ⟨0, r, [], []⟩ (newI_unsent _) (by rw [hl]; simp only; omega), newI_key, hl]
  by_cases h4 : 4 ≤ l.length
  · rw [fold_full _ _ (by simp only; omega)]
    simp
  · have : l.drop 4 = [] := List.drop_eq_nil_of_le (by omega)
    rw [this]
    simp [newI]
/-- what a telling does behind an answer: the next key -/
theorem tell_next {now r : Int} {sent : List Item} {rest : List ByteArray} (h : ∀ x ∈ sent, 0 ≤ x.since ∧ now - x.since < 1000) (hl : sent.length ≤ 3) (hr : rest = [] ∨ sent.length = 3) :
    tellP now r (sent ++ newI rest) = ⟨sent.length + min rest.length 1, r + (min rest.length 1 : Nat), sent ++ numL now r (rest.take 1) ++ newI (rest.drop 1), numL now r (rest.take 1)⟩ := by
  have hc : sent.countP sentI = sent.length := List.countP_eq_length.2 fun x hx => by have := h x hx; simp only [sentI, decide_eq_true_eq]; omega
  rw [tell_fold, aged_app, aged_wait h, aged_newI, List.countP_append, cnt_newI, hc, List.foldl_append, fold_wait _ _ (fun x hx => (h x hx).1)]
  cases rest with
  | nil => simp [newI, numL]
  | cons k l =>
    have h3 : sent.length = 3 := hr.resolve_left (by simp)
    rw [newI_cons, List.foldl_cons, sdStep, if_neg (by simp only; omega), fold_full _ _ (by simp only; omega)]
    simp [numL]
/-- what holds between two answers: a keys are answered -/
def AInv (L : List ByteArray) (p n : Int) (a : Nat) (Q : List HMsg) (xs : List Item) (nw : Int) : Prop := ∃ sent rest, xs = sent ++ newI rest ∧ Q = sent.map (msgH 0 n p) ∧ sent.map (·.key) ++ rest = L.drop a ∧ sent.length ≤ 4 ∧ (rest = [] ∨ sent.length = 4) ∧
  (∀ x ∈ sent, 0 ≤ x.since ∧ x.since ≤ nw) ∧ a ≤ L.length
section
variable {L : List ByteArray} {p n nw r : Int} {a : Nat} {Q : List HMsg} {xs : List Item}
theorem AInv.len (h : AInv L p n a Q xs nw) : xs.length + a = L.length ∧ Q.length ≤ 4 ∧ (Q.length = 0 ↔ xs.length = 0) ∧ a ≤ L.length ∧ Q.length ≤ xs.length := by
  obtain ⟨sent, rest, rfl, rfl, h1, h2, h3, -, h4⟩ := h
  have := congrArg List.length h1
  rw [List.length_append, List.length_map, List.length_drop] at this
  rw [List.length_append, newI_len, List.length_map]
  have h5 : rest.length = 0 ∨ sent.length = 4 := h3.imp (fun e => by rw [e]; rfl) id
  omega
theorem AInv.head (h : AInv L p n a Q xs nw) {x : HMsg} (hx : Q[0]? = some x) : x.kind = 10 ∧ x.frm = 0 ∧ x.to = n ∧ x.part = p ∧ L[a]? = some x.key := by
  obtain ⟨sent, rest, rfl, rfl, h1, -⟩ := h
  cases sent with
  | nil => simp at hx
  | cons y l =>
    simp only [List.map_cons, List.getElem?_cons_zero, Option.some.injEq] at hx
    subst hx
    refine ⟨rfl, rfl, rfl, rfl, ?_⟩
    have := congrArg (fun l => l[0]?) h1
    simp only [List.map_cons, List.cons_append, List.getElem?_cons_zero, List.getElem?_drop, Nat.add_zero] at this
    exact this.symm
theorem AInv.first (L : List ByteArray) (p n : Int) : AInv L p n 0 ((numL 0 0 (L.take 4)).map (msgH 0 n p)) (numL 0 0 (L.take 4) ++ newI (L.drop 4)) 0 := by
  refine ⟨_, _, rfl, rfl, by rw [numL_key, List.take_append_drop, List.drop_zero], by rw [numL_len]; exact List.length_take_le _ _, ?_, fun x hx => by have := (numL_mem hx).2; omega, Nat.zero_le _⟩
  by_cases h4 : 4 ≤ L.length
  · right; rw [numL_len, List.length_take]; omega
  · left; exact List.drop_eq_nil_of_le (by omega)
variable {w : World} {s : Nat} {F : Nat → Prop}
theorem al_begin (h : SndAt w s F 0 0 0 []) (hR : Rising L) (hk : L.any (fun k => !isKey k) = false) (hp : 0 ≤ p ∧ p < 64) (hn : 1 ≤ n ∧ n < 8) (ak : Option Addr) (ck : Nat) (hka : SlOf w ak L) (hdk : ∀ x, ak = some x → ¬ F x.block) (hl : L.length ≤ 60) :
    Calls Try.prog 11 #[.pointer (some ⟨s, 0, none⟩), .int .i64 p, .int .i64 n, .slice ak L.length ck] w (Ret (SStep s F w 0 0 0 0 [⟨p, n, newI L⟩])) := by
  have := beginD h p n ak L ck (by decide) hka hdk (by omega) (fun k hk2 => by have := List.any_eq_false.1 hk k hk2; have := isKey_size (k := k) (by simpa using this); omega)
  obtain ⟨e1, e2⟩ := beg_rising (self := 0) (part := p) (to := n) hR hk (by rw [mayE, if_neg (by omega)])
  rwa [e1, e2] at this
theorem al_tick (h : SndAt w s F 0 0 0 [⟨p, n, newI L⟩]) : Calls Try.prog 14 #[.pointer (some ⟨s, 0, none⟩), .int .i64 0] w
    (Ret fun v w' => ∃ T xs' r', AInv L p n 0 T xs' 0 ∧ 0 ≤ r' ∧ r' ≤ 4 ∧ MStep s F w T 0 0 r' [⟨p, n, xs'⟩] v w') := by
  have := tickD h 0 (by show 1 ≤ 1000; omega) (by omega) (by omega)
  rw [Int.max_self, tick_one, tell_first] at this
  exact ret_mono this fun v w' hM => ⟨_, _, _, AInv.first L p n, (by show (0 : Int) ≤ 0 + ((min L.length 4 : Nat) : Int); omega), (by show 0 + ((min L.length 4 : Nat) : Int) ≤ 4; omega), hM⟩
theorem al_on (h : SndAt w s F 0 nw r [⟨p, n, xs⟩]) (hI : AInv L p n a Q xs nw) (hL : L.length ≤ 60) (x : HMsg) (hx : Q[0]? = some x) (hnw : 0 ≤ nw ∧ nw ≤ (a : Int)) (hr : 0 ≤ r ∧ r ≤ 1000) :
    Calls Try.prog 15 #[.pointer (some ⟨s, 0, none⟩), .agg #[.int .i64 (((handedM x)).kind), .int .i64 (((handedM x)).frm), .int .i64 (((handedM x)).to), .int .i64 (((handedM x)).req), .string (((handedM x)).key), .slice (none) (0) (0), .slice (none) (0) (0), .slice (none) (0) (0), .int .i64 (0), .int .i64 (((handedM x)).part), .int .i64 (0), .int .i64 (0), .int .i64 (0), .int .i64 (0), .slice (none) (0) (0), .slice (none) (0) (0), .slice (none) (0) (0)], .int .i64 ((a : Nat) : Int)] w (Ret fun v w' => ∃ T xs' r', AInv L p n (a + 1) (Q.drop 1 ++ T) xs' (a : Int) ∧ r ≤ r' ∧ r' ≤ r + 1 ∧ T.length ≤ 1 ∧ MStep s F w T 0 (a : Int) r' [⟨p, n, xs'⟩] v w') := by
  have hlen := hI.len
  have hO := onD h (handedM x) (a : Int) (by show 1 ≤ 1000; omega) (by omega) (by omega)
  rw [Int.max_eq_right hnw.2] at hO
  obtain ⟨sent, rest, rfl, rfl, h1, h2, h3, h4, h5⟩ := hI
  cases sent with
  | nil => simp at hx
  | cons y l =>
    simp only [List.map_cons, List.getElem?_cons_zero, Option.some.injEq] at hx
    subst hx
    have hi : List.findIdx? (sameT (handedM (msgH 0 n p y)).part (handedM (msgH 0 n p y)).frm) [(⟨p, n, y :: l ++ newI rest⟩ : PTr Item)] = some 0 := by
      rw [List.findIdx?_cons, if_pos]
      simp only [sameT, handedM, msgH, decide_true, Bool.and_self]
    have hy := h4 y (by simp)
    have hk : List.findIdx? (ackI (handedM (msgH 0 n p y)).key (handedM (msgH 0 n p y)).req) (y :: l ++ newI rest) = some 0 := by
      rw [List.cons_append, List.findIdx?_cons, if_pos]
      simp only [ackI, handedM, msgH, hy.1, decide_true, Bool.and_self]
    have hd : delI (y :: l ++ newI rest) 0 = l ++ newI rest := rfl
    have hw : ∀ z ∈ l, 0 ≤ z.since ∧ (a : Int) - z.since < 1000 := fun z hz => by have := h4 z (by simp [hz]); omega
    have h2' : l.length ≤ 3 := by simp only [List.length_cons] at h2; omega
    have h3' : rest = [] ∨ l.length = 3 := h3.imp id (fun e => by simp only [List.length_cons] at e; omega)
    have e : onP 0 (a : Int) r [⟨p, n, y :: l ++ newI rest⟩] (handedM (msgH 0 n p y)) = ⟨(tellP (a : Int) r (l ++ newI rest)).r, [⟨p, n, (tellP (a : Int) r (l ++ newI rest)).L⟩], (tellP (a : Int) r (l ++ newI rest)).T.map (msgH 0 n p)⟩ := by
      unfold onP; rw [if_pos (show (handedM (msgH 0 n p y)).kind = 11 from rfl), hi]; simp only [List.getElem?_cons_zero, hk, hd, List.set_cons_zero]
    rw [e, tell_next hw h2' h3'] at hO
    refine ret_mono hO fun v w' hM => ⟨_, _, _, ⟨l ++ numL (a : Int) r (rest.take 1), rest.drop 1, rfl, ?_, ?_, ?_, ?_, ?_, ?_⟩, ?_, ?_, ?_, hM⟩
    · simp only [List.map_cons, List.drop_succ_cons, List.drop_zero, List.map_append]
    · rw [List.map_append, numL_key, List.append_assoc, List.take_append_drop]
      have := congrArg (List.drop 1) h1
      simpa [List.drop_drop] using this
    · rw [List.length_append, numL_len, List.length_take]; omega
    · rcases h3' with h' | h'
      · left; subst h'; rfl
      · cases rest with
        | nil => left; rfl
        | cons k rr => right; rw [List.length_append, numL_len, List.length_take, List.length_cons, h']; omega
    · intro z hz
      rcases List.mem_append.1 hz with hz | hz
      · have := h4 z (by simp [hz]); omega
      · have := (numL_mem hz).2; omega
    · have := congrArg List.length h1
      simp only [List.map_cons, List.cons_append, List.length_cons, List.length_drop] at this
      omega
    · show r ≤ r + ((min rest.length 1 : Nat) : Int); omega
    · show r + ((min rest.length 1 : Nat) : Int) ≤ r + 1; omega
    · rw [List.length_map, numL_len, List.length_take]; omega
theorem al_left (h : SndAt w s F 0 nw r [⟨p, n, xs⟩]) : Calls Try.prog 17 #[.pointer (some ⟨s, 0, none⟩), .int .i64 p, .int .i64 n] w (Ret fun v w' => v = .int .i64 ((xs.length : Nat) : Int) ∧ Ext w w') := by
  have := leftD h p n (by show 1 ≤ 1000; omega)
  rw [show leftN [⟨p, n, xs⟩] p n = xs.length by simp [leftN, sameT]] at this
  exact this
theorem al_done (h : SndAt w s F 0 nw r [⟨p, n, xs⟩]) : Calls Try.prog 18 #[.pointer (some ⟨s, 0, none⟩), .int .i64 p, .int .i64 n] w (Ret fun v w' => v = .bool (decide (((xs.length : Nat) : Int) = 0)) ∧ Ext w w') := by
  have := doneD h p n (by show 1 ≤ 1000; omega)
  rw [show doneB [⟨p, n, xs⟩] p n = xs.isEmpty by simp [doneB, sameT], done_eq] at this
  exact this
theorem al_open (h : SndAt w s F 0 nw r [⟨p, n, xs⟩]) (hx : xs.length = 0) : Calls Try.prog 21 #[.pointer (some ⟨s, 0, none⟩)] w (Ret fun v w' => ∃ a' c', v = .slice a' ([] : List MoveC).length c' ∧ OwnSl w' 82 a' c' ([] : List MoveC) ∧ (∀ q, own a' q → w.heap.size ≤ q) ∧ Ext w w') := by
  have := openD h (by show 1 ≤ 1000; omega)
  have e : xs = [] := List.eq_nil_of_length_eq_zero hx
  subst e
  exact this
end

theorem en27 : Enters Try.prog 27 := enters_of Try.func27 rfl (by kernel_rfl)

set_option maxRecDepth 100000 in
set_option maxHeartbeats 4000000 in
theorem law_all (u0 u1 : Int) (ak : Option Addr) (keys : List ByteArray) (ck : Nat) (w : World) (hu0 : 0 ≤ u0) (hu1 : 0 ≤ u1) (hka : SlOf w ak keys) (hkyl : keys.length ≤ 1048576) (hks : ∀ k ∈ keys, k.size ≤ 4294967295) :
    Calls Try.prog 7 #[.int .u64 (u0), .int .u64 (u1), .slice (ak) (keys.length) (ck)] w (Ret (fun v w' => v = .bool true ∧ Ext w w')) := by
  refine calls_run (n := 138) Try.func7 rfl rfl rfl ?_
  refine Run.seq ?_
  refine Run.region ?_
  refine RL.val (x_assignB rfl) ?_
  refine RL.nil ?_
  refine Run.seq ?_
  obtain ⟨p0, hp0, hp1, hp2⟩ := mod_n (m := 64) hu0 (by decide) (by decide)
  obtain ⟨n0, hn0, hn1, hn2⟩ := mod_n (m := 7) hu1 (by decide) (by decide)
  refine Run.region ?_
  refine RL.val (x_moveI rfl) ?_
  refine RL.val (x_rem rfl rfl (by decide)) ?_
  refine RL.val (litI (c := p0) (x_convI rfl ⟨_, Try.underlying30⟩ Try.underlying3) hp0) ?_
  refine RL.val (x_moveI rfl) ?_
  refine RL.val (x_rem rfl rfl (by decide)) ?_
  refine RL.val (litI (c := n0) (x_convI rfl ⟨_, Try.underlying30⟩ Try.underlying3) hn0) ?_
  refine RL.val (x_add rfl rfl (by omega) (by omega)) ?_
  refine RL.val (x_assignI rfl) ?_
  refine RL.val (x_assignI rfl) ?_
  refine RL.nil ?_
  refine Run.seq ?_
  refine Run.region ?_
  refine RL.val (x_moveSl rfl) ?_
  refine RL.st rfl <| St1.call (vals := [.slice (ak) (keys.length) (ck)]) en9 rfl (fine_ _ keys _ _ hka (by first | decide | assumption | omega) (by assumption)) ?_
  rintro _ w_3 ⟨a_1, c_2, rfl, ho_4, hg_5, K_6⟩
  have pg_7 : ∀ q_, own a_1 q_ → w.heap.size ≤ q_ := fun q_ h => Nat.le_trans (Nat.le_refl _) (hg_5 q_ h)
  clear hg_5
  have K0 := (K_6 : Ext w _)
  refine RL.val (x_assignSl rfl) ?_
  refine RL.nil ?_
  have hfl := fine_len keys
  have hnl := newI_len (fineL keys)
  refine Run.seq ?_
  refine Run.region ?_
  refine RL.st rfl <| St1.call (vals := [.int .i64 (0)]) en10 rfl (newD 0 _) ?_
  rintro _ w_10 (⟨hnr, rfl, K_13⟩ | ⟨hrm, s_8, F_9, rfl, hS_11, hg_12, K_13⟩)
  · exact absurd (by decide) hnr
  · have pr_14 : ∀ q_, F_9 q_ → ¬ own a_1 q_ := apartNew hg_12 ho_4.own_lt
    have pg_15 : ∀ q_, F_9 q_ → w.heap.size ≤ q_ := fun q_ h => Nat.le_trans K0.size (hg_12 q_ h)
    clear hg_12
    replace ho_4 := ho_4.ext K_13
    replace K0 := K0.ext K_13
    refine RL.val (x_moveT rfl) ?_
    refine RL.val (x_extract rfl rfl) ?_
    refine RL.val (x_extract rfl rfl) ?_
    refine RL.val (x_assignP rfl) ?_
    refine RL.val (x_assignI rfl) ?_
    refine RL.nil ?_
    refine Run.seq ?_
    refine Run.seq ?_
    refine Run.region ?_
    refine RL.val (x_moveI rfl) ?_
    refine RL.val (litF (x_neI rfl rfl) (by decide)) ?_
    refine RL.val (x_moveB rfl) ?_
    refine RL.gst (wantedF1 rfl rfl rfl rfl) <| St1.val (x_moveP rfl) ?_
    refine RL.gst (wantedF1 rfl rfl rfl rfl) <| St1.val (litF (x_ptrNil Try.underlying24 rfl rfl) rfl) ?_
    refine RL.val (x_orF rfl rfl rfl) ?_
    refine RL.val (x_moveB rfl) ?_
    refine RL.gst (wantedF1 rfl rfl rfl rfl) <| St1.val (x_moveP rfl) ?_
    refine RL.gst (wantedF1 rfl rfl rfl rfl) <| St1.val (x_moveI rfl) ?_
    refine RL.gst (wantedF1 rfl rfl rfl rfl) <| St1.val (x_moveI rfl) ?_
    refine RL.gst (wantedF1 rfl rfl rfl rfl) <| St1.val (x_moveSl rfl) ?_
    refine RL.gst (wantedF1 rfl rfl rfl rfl) <| St1.call (vals := [.slice (a_1) ((fineL keys).length) (c_2)]) en12 rfl (clone_str _ _ _ _ ho_4.sl (by omega)) ?_
    rintro _ w_18 ⟨a_16, c_17, rfl, ho_19, hg_20, K_21⟩
    have pr_22 : ∀ q_, own a_16 q_ → ¬ own a_1 q_ := apartNew hg_20 ho_4.own_lt
    have pr_23 : ∀ q_, own a_16 q_ → ¬ F_9 q_ := apartNew hg_20 hS_11.own_lt
    have pg_24 : ∀ q_, own a_16 q_ → w.heap.size ≤ q_ := fun q_ h => Nat.le_trans K0.size (hg_20 q_ h)
    clear hg_20
    replace ho_4 := ho_4.ext K_21
    replace hS_11 := hS_11.ext K_21
    replace K0 := K0.ext K_21
    refine RL.gst (wantedF1 rfl rfl rfl rfl) <| St1.call (vals := [.pointer (some ⟨s_8, 0, none⟩), .int .i64 (p0), .int .i64 (1 + n0), .slice (a_16) ((fineL keys).length) (c_17)]) en11 rfl (al_begin (L := (fineL keys)) hS_11 (fine_rises keys) (fine_any keys) (by omega) (by omega) _ _ ho_19.sl (fun x_ hx_ => pr_23 _ ⟨x_, hx_, rfl⟩) hfl) ?_
    rintro _ w_26 ⟨F_25, rfl, hS_27, hm_28, K_29⟩
    have pr_30 : ∀ q_, F_25 q_ → ¬ own a_1 q_ := hm_28.apart pr_14 ho_4.own_lt
    have pr_31 : ∀ q_, F_25 q_ → ¬ own a_16 q_ := hm_28.apart (fun q_ h1 h2 => pr_23 q_ h2 h1) ho_19.own_lt
    have pg_32 : ∀ q_, F_25 q_ → w.heap.size ≤ q_ := hm_28.ge pg_15 K0.size
    replace ho_4 := ho_4.keepO K_29 (fun q_ h1 h2 => pr_14 q_ h2 h1)
    replace ho_19 := ho_19.keepO K_29 pr_23
    replace K0 := K0.new K_29 pg_15
    clear hm_28
    refine RL.gst (wantedF1 rfl rfl rfl rfl) <| St1.val (litF (x_neI rfl rfl) (by decide)) ?_
    refine RL.val (x_orF rfl rfl rfl) ?_
    refine RL.val (x_moveB rfl) ?_
    refine RL.gst (wantedF1 rfl rfl rfl rfl) <| St1.call (vals := []) en13 rfl (awake_ _) ?_
    rintro _ w_33 ⟨rfl, K_34⟩
    replace ho_4 := ho_4.ext K_34
    replace ho_19 := ho_19.ext K_34
    replace hS_27 := hS_27.ext K_34
    replace K0 := K0.ext K_34
    refine RL.gst (wantedF1 rfl rfl rfl rfl) <| St1.val (x_not rfl) ?_
    refine RL.val (x_orF rfl rfl rfl) ?_
    refine RL.nil ?_
    refine Run.condF rfl ?_
    refine Run.skip ?_
    refine Run.seq ?_
    refine Run.region ?_
    refine RL.val (x_assignSl rfl) ?_
    refine RL.nil ?_
    refine Run.seq ?_
    refine Run.region ?_
    refine RL.val (x_assignI rfl) ?_
    refine RL.nil ?_
    refine Run.seq ?_
    refine Run.region ?_
    refine RL.val (x_moveP rfl) ?_
    refine RL.st rfl <| St1.call (vals := [.pointer (some ⟨s_8, 0, none⟩), .int .i64 (0)]) en14 rfl (al_tick (L := (fineL keys)) hS_27) ?_
    rintro _ w_38 ⟨T0, xs0, r0, hI0, hr0a, hr0b, a_35, c_36, F_37, rfl, ho_39, hg_40, hS_41, hm_42, hap_43, K_44⟩
    have pr_45 : ∀ q_, own a_35 q_ → ¬ own a_1 q_ := apartNew hg_40 ho_4.own_lt
    have pr_46 : ∀ q_, own a_35 q_ → ¬ own a_16 q_ := apartNew hg_40 ho_19.own_lt
    have pr_47 : ∀ q_, own a_35 q_ → ¬ F_25 q_ := apartNew hg_40 hS_27.own_lt
    have pg_48 : ∀ q_, own a_35 q_ → w.heap.size ≤ q_ := fun q_ h => Nat.le_trans K0.size (hg_40 q_ h)
    clear hg_40
    have pr_49 : ∀ q_, F_37 q_ → ¬ own a_1 q_ := hm_42.apart pr_30 ho_4.own_lt
    have pr_50 : ∀ q_, F_37 q_ → ¬ own a_16 q_ := hm_42.apart pr_31 ho_19.own_lt
    have pg_51 : ∀ q_, F_37 q_ → w.heap.size ≤ q_ := hm_42.ge pg_32 K0.size
    replace ho_4 := ho_4.keepO K_44 (fun q_ h1 h2 => pr_30 q_ h2 h1)
    replace ho_19 := ho_19.keepO K_44 (fun q_ h1 h2 => pr_31 q_ h2 h1)
    replace K0 := K0.new K_44 pg_32
    clear hm_42
    refine RL.val (x_assignSl rfl) ?_
    refine RL.nil ?_
    refine Run.seq ?_
    refine Run.block ?_
    refine Run.loop (ι := Nat) (fun a ρ' w' => ∃ Q : List HMsg, ∃ xs : List Item, ∃ r : Int, ∃ nw : Int, ∃ F1 : Nat → Prop, ∃ aq : Option Addr, ∃ cq : Nat, ∃ at2 : Option Addr, ∃ ct2 : Nat, Holds ρ' [(7, .int .i64 (p0)), (8, .int .i64 (1 + n0)), (9, .slice (a_1) ((fineL keys).length) (c_2)), (10, .pointer (some ⟨s_8, 0, none⟩)), (12, .slice (at2) (((fineL keys).take a).length) (ct2)), (13, .int .i64 (((a : Nat) : Int))), (14, .slice (aq) ((Q).length) (cq))] ∧ Ext w w' ∧ (OwnSl w' 9 (a_1) (c_2) (fineL keys)) ∧ (OwnSl w' 9 (a_16) (c_17) (fineL keys)) ∧ (SndAt w' s_8 F1 0 nw r [⟨p0, 1 + n0, xs⟩]) ∧ (OwnAt w' 46 aq cq (Q)) ∧ (OwnSl w' 9 at2 ct2 ((fineL keys).take a)) ∧ (∀ q_, F1 q_ → ¬ own a_1 q_) ∧ (∀ q_, F1 q_ → ¬ own a_16 q_) ∧ (∀ q_, F1 q_ → ¬ own aq q_) ∧ (∀ q_, F1 q_ → ¬ own at2 q_) ∧ (∀ q_, F1 q_ → w.heap.size ≤ q_) ∧ (∀ q_, own aq q_ → ¬ own a_1 q_) ∧ (∀ q_, own aq q_ → ¬ own a_16 q_) ∧ (∀ q_, own aq q_ → ¬ own at2 q_) ∧ (∀ q_, own aq q_ → w.heap.size ≤ q_) ∧ (∀ q_, own at2 q_ → ¬ own a_1 q_) ∧ (∀ q_, own at2 q_ → ¬ own a_16 q_) ∧ (∀ q_, own at2 q_ → w.heap.size ≤ q_) ∧ (AInv (fineL keys) p0 (1 + n0) a Q xs nw) ∧ (0 ≤ nw ∧ nw ≤ (a : Int)) ∧ (0 ≤ r ∧ r ≤ 4 + (a : Int))) (fun a => (fineL keys).length - a) 0 ?_ ?_
    · rw [List.take_zero]
      have ho_69 := OwnSl.nil (α := ByteArray) w_38 9
      refine ⟨T0, xs0, r0, 0, _, _, _, _, _, ⟨rfl, rfl, rfl, rfl, rfl, rfl, rfl, trivial⟩, K0, ho_4, ho_19, hS_41, (OwnSl.at_ ho_39), ho_69, pr_49, pr_50, (fun q_ h1 h2 => hap_43 q_ h2 h1), (fun q_ h1 h2 => (fun q_ h1 _ => own_none q_ h1) q_ h2 h1), pg_51, pr_45, pr_46, (fun q_ h1 h2 => (fun q_ h1 _ => own_none q_ h1) q_ h2 h1), pg_48, (fun q_ h1 _ => own_none q_ h1), (fun q_ h1 _ => own_none q_ h1), (fun q_ h1 => absurd h1 (own_none q_)), ?_, ?_, ?_⟩
      · exact hI0
      · omega
      · omega
    clear ho_4 ho_19 hS_41 ho_39
    clear K0
    rintro a ρ_70 w_52 ⟨Q, xs, r, nw, F1, aq, cq, at2, ct2, hH_53, K0, ho_4, ho_19, hO_54, ho_55, ho_56, pr_57, pr_58, pr_59, pr_60, pr_61, pr_62, pr_63, pr_64, pr_65, pr_66, pr_67, pr_68, hI, hnw, hr⟩ ih1
    obtain ⟨ρ₀, rfl⟩ := hH_53.ex
    clear hH_53
    refine Run.seq ?_
    refine Run.seq ?_
    refine Run.region ?_
    refine RL.val (x_moveSl rfl) ?_
    refine RL.val (x_lenSl Try.underlying31 rfl) ?_
    refine RL.val (x_gtI rfl rfl) ?_
    refine RL.val (x_moveB rfl) ?_
    refine RL.gval (wantedT rfl rfl rfl rfl) (fun hg => (x_moveI rfl)) ?_
    refine RL.gval (wantedT rfl rfl rfl rfl) (fun hg => (x_moveSl rfl)) ?_
    refine RL.gval (wantedT rfl rfl rfl rfl) (fun hg => (x_lenSl Try.underlying22 (gvr hg))) ?_
    refine RL.gval (wantedT rfl rfl rfl rfl) (fun hg => (x_leI (gvr hg) (gvr hg))) ?_
    refine RL.val (x_and rfl rfl rfl) ?_
    refine RL.nil ?_
    refine Run.cond rfl (fun hc58 => ?_) (fun hc58 => ?_)
    · try simp only [br] at hc58
      refine Run.skip ?_
      refine Run.block ?_
      refine Run.seq ?_
      refine Run.seq ?_
      obtain ⟨q1, q2, q3, q4, q5⟩ := hI.len
      refine Run.region ?_
      refine RL.val (x_moveP rfl) ?_
      refine RL.val (x_moveI rfl) ?_
      refine RL.val (x_moveI rfl) ?_
      refine RL.st rfl <| St1.call (vals := [.pointer (some ⟨s_8, 0, none⟩), .int .i64 (p0), .int .i64 (1 + n0)]) en18 rfl (al_done hO_54) ?_
      rintro _ w_71 ⟨rfl, K_72⟩
      replace ho_4 := ho_4.ext K_72
      replace ho_19 := ho_19.ext K_72
      replace hO_54 := hO_54.ext K_72
      replace ho_55 := ho_55.ext K_72
      replace ho_56 := ho_56.ext K_72
      replace K0 := K0.ext K_72
      refine RL.val (x_moveB rfl) ?_
      refine RL.gval (wantedF rfl rfl rfl rfl) (fun hg => (x_moveP rfl)) ?_
      refine RL.gval (wantedF rfl rfl rfl rfl) (fun hg => (x_moveI rfl)) ?_
      refine RL.gval (wantedF rfl rfl rfl rfl) (fun hg => (x_moveI rfl)) ?_
      refine RL.gcall (vals := [.pointer (some ⟨s_8, 0, none⟩), .int .i64 (p0), .int .i64 (1 + n0)]) (wantedF rfl rfl rfl rfl) en17 (fun hg => (mcons (gvr hg) (mcons (gvr hg) (mcons (gvr hg) mnil)))) (fun hg => (al_left hO_54)) ?_
      intro w_73 K_74
      replace ho_4 := ho_4.ext K_74
      replace ho_19 := ho_19.ext K_74
      replace hO_54 := hO_54.ext K_74
      replace ho_55 := ho_55.ext K_74
      replace ho_56 := ho_56.ext K_74
      replace K0 := K0.ext K_74
      refine RL.gval (wantedF rfl rfl rfl rfl) (fun hg => (x_moveSl rfl)) ?_
      refine RL.gval (wantedF rfl rfl rfl rfl) (fun hg => (x_lenSl Try.underlying22 (gvr hg))) ?_
      refine RL.gval (wantedF rfl rfl rfl rfl) (fun hg => (x_moveI rfl)) ?_
      refine RL.gval (wantedF rfl rfl rfl rfl) (fun hg => (x_sub (gvr hg) (gvr hg) (by omega) (by omega))) ?_
      refine RL.gval (wantedF rfl rfl rfl rfl) (fun hg => (x_neI (gvr hg) (gvr hg))) ?_
      refine RL.val (x_or rfl rfl rfl) ?_
      refine RL.val (x_moveB rfl) ?_
      refine RL.gval (wantedF rfl rfl rfl rfl) (fun hg => (x_moveSl rfl)) ?_
      refine RL.gval (wantedF rfl rfl rfl rfl) (fun hg => (x_lenSl Try.underlying31 (gvr hg))) ?_
      refine RL.gval (wantedF rfl rfl rfl rfl) (fun hg => (x_gtI (gvr hg) rfl)) ?_
      refine RL.val (x_or rfl rfl rfl) ?_
      refine RL.nil ?_
      refine Run.cond rfl (fun hc78 => ?_) (fun hc78 => ?_)
      · try simp only [br] at hc78
        exact absurd hc78 (by omega)
      · try simp only [br] at hc78
        refine Run.skip ?_
        refine Run.seq ?_
        refine Run.region ?_
        refine RL.val (x_moveSl rfl) ?_
        obtain ⟨b_75, o_76, x, hx, ha_77, hc_78⟩ := ho_55.sl.el (i := 0) (by first | omega | (simp only [List.length_set]; omega))
        refine RL.val (x_idxN Try.underlying31 ty46 rfl rfl ha_77 (by first | omega | (simp only [List.length_set]; omega))) ?_
        refine RL.val (x_ldV (v := .agg #[.int .i64 ((x).kind), .int .i64 ((x).frm), .int .i64 ((x).to), .int .i64 ((x).req), .string ((x).key), .slice (none) (0) (0), .slice (none) (0) (0), .slice (none) (0) (0), .int .i64 (0), .int .i64 ((x).part), .int .i64 (0), .int .i64 (0), .int .i64 (0), .int .i64 (0), .slice (none) (0) (0), .slice (none) (0) (0), .slice (none) (0) (0)]) (y := x) ty46 rfl hc_78 rfl) ?_
        refine RL.st rfl <| St1.alloc ty46 ?_
        intro b_81 w_82 hl_85 hb_84 K_83
        replace hb_84 : Blk w_82 b_81 [.int .i64 (0), .int .i64 (0), .int .i64 (0), .int .i64 (0), .string (⟨#[]⟩), .slice (none) (0) (0), .slice (none) (0) (0), .slice (none) (0) (0), .int .i64 (0), .int .i64 (0), .int .i64 (0), .int .i64 (0), .int .i64 (0), .int .i64 (0), .slice (none) (0) (0), .slice (none) (0) (0), .slice (none) (0) (0)] 46 := hb_84
        have ne_86 : b_75 < b_81 := Nat.lt_of_lt_of_le hc_78.lt hl_85
        have pr_87 : ¬ own a_1 b_81 := fun h => absurd (ho_4.own_lt _ h) (by omega)
        have pr_88 : ¬ own a_16 b_81 := fun h => absurd (ho_19.own_lt _ h) (by omega)
        have pr_89 : ¬ F1 b_81 := fun h => absurd (hO_54.own_lt _ h) (by omega)
        have pr_90 : ¬ own aq b_81 := fun h => absurd (ho_55.own_lt _ h) (by omega)
        have pr_91 : ¬ own at2 b_81 := fun h => absurd (ho_56.own_lt _ h) (by omega)
        have : w.heap.size ≤ b_81 := Nat.le_trans K0.size hl_85
        clear hl_85
        replace ho_4 := ho_4.ext K_83
        replace ho_19 := ho_19.ext K_83
        replace hO_54 := hO_54.ext K_83
        replace ho_55 := ho_55.ext K_83
        replace ho_56 := ho_56.ext K_83
        replace hc_78 := hc_78.ext K_83
        replace K0 := K0.ext K_83
        refine RL.st rfl <| St1.store (v := .agg #[.int .i64 ((x).kind), .int .i64 ((x).frm), .int .i64 ((x).to), .int .i64 ((x).req), .string ((x).key), .slice (none) (0) (0), .slice (none) (0) (0), .slice (none) (0) (0), .int .i64 (0), .int .i64 ((x).part), .int .i64 (0), .int .i64 (0), .int .i64 (0), .int .i64 (0), .slice (none) (0) (0), .slice (none) (0) (0), .slice (none) (0) (0)]) ty46 rfl rfl rfl (by simp [Value.cells, Value.oneCell']) hb_84 (by simp) ?_
        intro w_92 hb_84_ K_93
        have hb_84' : Blk w_92 b_81 [.int .i64 ((x).kind), .int .i64 ((x).frm), .int .i64 ((x).to), .int .i64 ((x).req), .string ((x).key), .slice (none) (0) (0), .slice (none) (0) (0), .slice (none) (0) (0), .int .i64 (0), .int .i64 ((x).part), .int .i64 (0), .int .i64 (0), .int .i64 (0), .int .i64 (0), .slice (none) (0) (0), .slice (none) (0) (0), .slice (none) (0) (0)] 46 := hb_84_
        clear hb_84_
        replace ho_4 := ho_4.keepO K_93 (fun q_ hq_ eq_ => pr_87 (by simp only [one] at eq_; rw [← eq_]; exact hq_))
        replace ho_19 := ho_19.keepO K_93 (fun q_ hq_ eq_ => pr_88 (by simp only [one] at eq_; rw [← eq_]; exact hq_))
        replace hO_54 := hO_54.keepO K_93 (fun q_ hq_ eq_ => pr_89 (by simp only [one] at eq_; rw [← eq_]; exact hq_))
        replace ho_55 := ho_55.keepO K_93 (fun q_ hq_ eq_ => pr_90 (by simp only [one] at eq_; rw [← eq_]; exact hq_))
        replace ho_56 := ho_56.keepO K_93 (fun q_ hq_ eq_ => pr_91 (by simp only [one] at eq_; rw [← eq_]; exact hq_))
        replace hc_78 := hc_78.keep K_93 (fun e => pr_90 (by simp only [one] at e; rw [← e]; exact (own_sub _) _ ha_77))
        replace K0 := K0.new K_93 (fun x hx => by simp only [one] at hx; omega)
        replace hb_84 := hb_84'
        clear hb_84'
        refine RL.nil ?_
        obtain ⟨g1, g2, g3, g4, g5⟩ := hI.head hx
        refine Run.seq ?_
        refine Run.seq ?_
        refine Run.region ?_
        refine RL.val (x_fld (o' := 0) Try.underlying46 rfl ty3 rfl rfl rfl) ?_
        refine RL.val (x_ld (v := .int .i64 ((x).kind)) ty3 rfl rfl (hb_84.cl.field (i := 0) rfl)) ?_
        refine RL.val (x_neI rfl rfl) ?_
        refine RL.val (x_moveB rfl) ?_
        refine RL.gval (wantedF rfl rfl rfl rfl) (fun hg => (x_fld (o' := 1) Try.underlying46 rfl ty3 rfl rfl rfl)) ?_
        refine RL.gval (wantedF rfl rfl rfl rfl) (fun hg => (x_ld (v := .int .i64 ((x).frm)) ty3 (gvr hg) rfl (hb_84.cl.field (i := 1) rfl))) ?_
        refine RL.gval (wantedF rfl rfl rfl rfl) (fun hg => (x_neI (gvr hg) rfl)) ?_
        refine RL.val (x_or rfl rfl rfl) ?_
        refine RL.val (x_moveB rfl) ?_
        refine RL.gval (wantedF rfl rfl rfl rfl) (fun hg => (x_fld (o' := 2) Try.underlying46 rfl ty3 rfl rfl rfl)) ?_
        refine RL.gval (wantedF rfl rfl rfl rfl) (fun hg => (x_ld (v := .int .i64 ((x).to)) ty3 (gvr hg) rfl (hb_84.cl.field (i := 2) rfl))) ?_
        refine RL.gval (wantedF rfl rfl rfl rfl) (fun hg => (x_moveI rfl)) ?_
        refine RL.gval (wantedF rfl rfl rfl rfl) (fun hg => (x_neI (gvr hg) (gvr hg))) ?_
        refine RL.val (x_or rfl rfl rfl) ?_
        refine RL.val (x_moveB rfl) ?_
        refine RL.gval (wantedF rfl rfl rfl rfl) (fun hg => (x_fld (o' := 9) Try.underlying46 rfl ty3 rfl rfl rfl)) ?_
        refine RL.gval (wantedF rfl rfl rfl rfl) (fun hg => (x_ld (v := .int .i64 ((x).part)) ty3 (gvr hg) rfl (hb_84.cl.field (i := 9) rfl))) ?_
        refine RL.gval (wantedF rfl rfl rfl rfl) (fun hg => (x_moveI rfl)) ?_
        refine RL.gval (wantedF rfl rfl rfl rfl) (fun hg => (x_neI (gvr hg) (gvr hg))) ?_
        refine RL.val (x_or rfl rfl rfl) ?_
        refine RL.nil ?_
        refine Run.cond rfl (fun hc101 => ?_) (fun hc101 => ?_)
        · try simp only [br] at hc101
          exact absurd hc101 (by omega)
        · try simp only [br] at hc101
          refine Run.skip ?_
          refine Run.seq ?_
          have htk := List.length_take_le a (fineL keys)
          refine Run.region ?_
          refine RL.val (x_moveSl rfl) ?_
          refine RL.val (x_fld (o' := 4) Try.underlying46 rfl ty9 rfl rfl rfl) ?_
          refine RL.val (x_ld (v := .string ((x).key)) ty9 rfl rfl (hb_84.cl.field (i := 4) rfl)) ?_
          refine RL.st rfl <| St1.buildSlice ([(x).key] : List ByteArray) Try.underlying22 ty9 rfl rfl (by first | decide | (simp [Enc.size])) ?_
          intro b_94 w_95 hl_98 ho_97 K_96
          have pr_99 : ∀ q_, own (some ⟨b_94, 0, none⟩) q_ → ¬ own a_1 q_ := apartNew (ge_new hl_98) ho_4.own_lt
          have pr_100 : ∀ q_, own (some ⟨b_94, 0, none⟩) q_ → ¬ own a_16 q_ := apartNew (ge_new hl_98) ho_19.own_lt
          have pr_101 : ∀ q_, own (some ⟨b_94, 0, none⟩) q_ → ¬ F1 q_ := apartNew (ge_new hl_98) hO_54.own_lt
          have pr_102 : ∀ q_, own (some ⟨b_94, 0, none⟩) q_ → ¬ own aq q_ := apartNew (ge_new hl_98) ho_55.own_lt
          have pr_103 : ∀ q_, own (some ⟨b_94, 0, none⟩) q_ → ¬ own at2 q_ := apartNew (ge_new hl_98) ho_56.own_lt
          have pr_104 : ¬ own (some ⟨b_94, 0, none⟩) b_81 := notNew (ge_new hl_98) hb_84.lt
          have pg_105 : ∀ q_, own (some ⟨b_94, 0, none⟩) q_ → w.heap.size ≤ q_ := fun q_ h => Nat.le_trans K0.size ((ge_new hl_98) q_ h)
          clear hl_98
          replace ho_4 := ho_4.ext K_96
          replace ho_19 := ho_19.ext K_96
          replace hO_54 := hO_54.ext K_96
          replace ho_55 := ho_55.ext K_96
          replace ho_56 := ho_56.ext K_96
          replace hb_84 := hb_84.ext K_96
          replace K0 := K0.ext K_96
          refine RL.st rfl <| St1.append (xs := (fineL keys).take a) (ys := ([(x).key] : List ByteArray)) Try.underlying22 ty9 rfl rfl rfl ho_56 ho_97.sl (by first | omega | (simp only [lr]; omega)) (by decide) ?_
          intro a_106 c_107 w_108 ho_109 K_110 hm_111 hrm_112
          have pr_113 : ∀ q_, own a_106 q_ → ¬ own a_1 q_ := hm_111.apart pr_66 ho_4.own_lt
          have pr_114 : ∀ q_, own a_106 q_ → ¬ own a_16 q_ := hm_111.apart pr_67 ho_19.own_lt
          have pr_115 : ∀ q_, own a_106 q_ → ¬ F1 q_ := hm_111.apart (fun q_ h1 h2 => pr_60 q_ h2 h1) hO_54.own_lt
          have pr_116 : ∀ q_, own a_106 q_ → ¬ own aq q_ := hm_111.apart (fun q_ h1 h2 => pr_64 q_ h2 h1) ho_55.own_lt
          have pr_117 : ¬ own a_106 b_81 := hm_111.not pr_91 hb_84.lt
          have pr_118 : ∀ q_, own a_106 q_ → ¬ own (some ⟨b_94, 0, none⟩) q_ := hm_111.apart (fun q_ h1 h2 => pr_103 q_ h2 h1) ho_97.own_lt
          have pg_119 : ∀ q_, own a_106 q_ → w.heap.size ≤ q_ := hm_111.ge pr_68 K0.size
          replace ho_4 := ho_4.keepO K_110 (fun q_ h1 h2 => pr_66 q_ h2 h1)
          replace ho_19 := ho_19.keepO K_110 (fun q_ h1 h2 => pr_67 q_ h2 h1)
          replace hO_54 := hO_54.keepO K_110 pr_60
          replace ho_55 := ho_55.keepO K_110 pr_64
          replace hb_84 := hb_84.keep K_110 pr_91
          replace ho_97 := ho_97.keepO K_110 pr_103
          replace K0 := K0.new K_110 pr_68
          clear hm_111
          clear hrm_112
          refine RL.val (x_assignSl rfl) ?_
          refine RL.nil ?_
          refine Run.seq ?_
          refine Run.drawT [] (m := 9) (by kernel_rfl) rfl ?_
          intro w_120 K_121
          replace ho_4 := ho_4.ext K_121
          replace ho_19 := ho_19.ext K_121
          replace hO_54 := hO_54.ext K_121
          replace ho_55 := ho_55.ext K_121
          replace hb_84 := hb_84.ext K_121
          replace ho_97 := ho_97.ext K_121
          replace ho_109 := ho_109.ext K_121
          replace K0 := K0.ext K_121
          refine ⟨fun w' => Blk w' b_81 [.int .i64 ((x).kind), .int .i64 ((x).frm), .int .i64 ((x).to), .int .i64 ((x).req), .string ((x).key), .slice (none) (0) (0), .slice (none) (0) (0), .slice (none) (0) (0), .int .i64 (0), .int .i64 ((x).part), .int .i64 (0), .int .i64 (0), .int .i64 (0), .int .i64 (0), .slice (none) (0) (0), .slice (none) (0) (0), .slice (none) (0) (0)] 46 ∧ True, ?_⟩
          refine RT.takeP (v := .slice (aq) ((Q).length) (cq)) 0 rfl (by kernel_rfl) (.inr ⟨hb_84, trivial⟩) (fun _ => (x_moveSl rfl)) ?_
          refine RT.takeP (v := .slice (advA aq cq 1 17) ((Q.drop 1).length) (cq - 1)) 1 rfl (by kernel_rfl) (.inr ⟨hb_84, trivial⟩) (fun _ => (x_sliceFrom (xs := Q) Try.underlying31 ty46 rfl rfl (by omega))) ?_
          refine RT.takeP (v := .pointer (some ⟨s_8, 0, none⟩)) 2 rfl (by kernel_rfl) (.inr ⟨hb_84, trivial⟩) (fun _ => (x_moveP rfl)) ?_
          refine RT.take (v := .agg #[.int .i64 ((x).kind), .int .i64 ((x).frm), .int .i64 ((x).to), .int .i64 ((x).req), .string ((x).key), .slice (none) (0) (0), .slice (none) (0) (0), .slice (none) (0) (0), .int .i64 (0), .int .i64 ((x).part), .int .i64 (0), .int .i64 (0), .int .i64 (0), .int .i64 (0), .slice (none) (0) (0), .slice (none) (0) (0), .slice (none) (0) (0)]) 3 rfl (by kernel_rfl) ⟨hb_84, trivial⟩ (by rintro _ ⟨hb_84, -⟩; exact (x_lds (cs := #[.int .i64 ((x).kind), .int .i64 ((x).frm), .int .i64 ((x).to), .int .i64 ((x).req), .string ((x).key), .slice (none) (0) (0), .slice (none) (0) (0), .slice (none) (0) (0), .int .i64 (0), .int .i64 ((x).part), .int .i64 (0), .int .i64 (0), .int .i64 (0), .int .i64 (0), .slice (none) (0) (0), .slice (none) (0) (0), .slice (none) (0) (0)]) ty46 rfl rfl (hb_84.cl.drop 0 17))) ?_
          refine RT.takeP (v := .int .i64 (((a : Nat) : Int))) 5 rfl (by kernel_rfl) (.inr ⟨hb_84, trivial⟩) (fun _ => (x_moveI rfl)) ?_
          refine RT.st 4 rfl (by kernel_rfl) rfl <| St1.call (vals := [.agg #[.int .i64 ((x).kind), .int .i64 ((x).frm), .int .i64 ((x).to), .int .i64 ((x).req), .string ((x).key), .slice (none) (0) (0), .slice (none) (0) (0), .slice (none) (0) (0), .int .i64 (0), .int .i64 ((x).part), .int .i64 (0), .int .i64 (0), .int .i64 (0), .int .i64 (0), .slice (none) (0) (0), .slice (none) (0) (0), .slice (none) (0) (0)]]) en16 rfl (handed_ x _) ?_
          rintro _ w_122 ⟨rfl, K_123⟩
          replace ho_4 := ho_4.ext K_123
          replace ho_19 := ho_19.ext K_123
          replace hO_54 := hO_54.ext K_123
          replace ho_55 := ho_55.ext K_123
          replace hb_84 := hb_84.ext K_123
          replace ho_97 := ho_97.ext K_123
          replace ho_109 := ho_109.ext K_123
          replace K0 := K0.ext K_123
          refine ⟨.inr ⟨hb_84, trivial⟩, ?_⟩
          refine RT.st 6 rfl (by kernel_rfl) rfl <| St1.call (vals := [.pointer (some ⟨s_8, 0, none⟩), .agg #[.int .i64 (((handedM x)).kind), .int .i64 (((handedM x)).frm), .int .i64 (((handedM x)).to), .int .i64 (((handedM x)).req), .string (((handedM x)).key), .slice (none) (0) (0), .slice (none) (0) (0), .slice (none) (0) (0), .int .i64 (0), .int .i64 (((handedM x)).part), .int .i64 (0), .int .i64 (0), .int .i64 (0), .int .i64 (0), .slice (none) (0) (0), .slice (none) (0) (0), .slice (none) (0) (0)], .int .i64 (((a : Nat) : Int))]) en15 rfl (al_on hO_54 hI hfl x hx hnw (by omega)) ?_
          rintro _ w_127 ⟨T1, xs1, r1, hI1, hr1a, hr1b, hT1, a_124, c_125, F_126, rfl, ho_128, hg_129, hS_130, hm_131, hap_132, K_133⟩
          have pr_134 : ∀ q_, own a_124 q_ → ¬ own a_1 q_ := apartNew hg_129 ho_4.own_lt
          have pr_135 : ∀ q_, own a_124 q_ → ¬ own a_16 q_ := apartNew hg_129 ho_19.own_lt
          have pr_136 : ∀ q_, own a_124 q_ → ¬ F1 q_ := apartNew hg_129 hO_54.own_lt
          have pr_137 : ∀ q_, own a_124 q_ → ¬ own aq q_ := apartNew hg_129 ho_55.own_lt
          have pr_138 : ¬ own a_124 b_81 := notNew hg_129 hb_84.lt
          have pr_139 : ∀ q_, own a_124 q_ → ¬ own (some ⟨b_94, 0, none⟩) q_ := apartNew hg_129 ho_97.own_lt
          have pr_140 : ∀ q_, own a_124 q_ → ¬ own a_106 q_ := apartNew hg_129 ho_109.own_lt
          have pg_141 : ∀ q_, own a_124 q_ → w.heap.size ≤ q_ := fun q_ h => Nat.le_trans K0.size (hg_129 q_ h)
          clear hg_129
          have pr_142 : ∀ q_, F_126 q_ → ¬ own a_1 q_ := hm_131.apart pr_57 ho_4.own_lt
          have pr_143 : ∀ q_, F_126 q_ → ¬ own a_16 q_ := hm_131.apart pr_58 ho_19.own_lt
          have pr_144 : ∀ q_, F_126 q_ → ¬ own aq q_ := hm_131.apart pr_59 ho_55.own_lt
          have pr_145 : ¬ F_126 b_81 := hm_131.not pr_89 hb_84.lt
          have pr_146 : ∀ q_, F_126 q_ → ¬ own (some ⟨b_94, 0, none⟩) q_ := hm_131.apart (fun q_ h1 h2 => pr_101 q_ h2 h1) ho_97.own_lt
          have pr_147 : ∀ q_, F_126 q_ → ¬ own a_106 q_ := hm_131.apart (fun q_ h1 h2 => pr_115 q_ h2 h1) ho_109.own_lt
          have pg_148 : ∀ q_, F_126 q_ → w.heap.size ≤ q_ := hm_131.ge pr_61 K0.size
          replace ho_4 := ho_4.keepO K_133 (fun q_ h1 h2 => pr_57 q_ h2 h1)
          replace ho_19 := ho_19.keepO K_133 (fun q_ h1 h2 => pr_58 q_ h2 h1)
          replace ho_55 := ho_55.keepO K_133 (fun q_ h1 h2 => pr_59 q_ h2 h1)
          replace hb_84 := hb_84.keep K_133 pr_89
          replace ho_97 := ho_97.keepO K_133 pr_101
          replace ho_109 := ho_109.keepO K_133 pr_115
          replace K0 := K0.new K_133 pr_61
          clear hm_131
          refine ⟨.inr ⟨hb_84, trivial⟩, ?_⟩
          have ho_149 : OwnAt w_127 46 (advA aq cq 1 17) (cq - 1) (Q.drop 1) := OwnAt.from_ ho_55 1 (by omega)
          have hsx_150 := ho_128.sl
          refine RT.st 7 rfl (by kernel_rfl) rfl <| St1.appendAt (xs := Q.drop 1) (ys := T1) Try.underlying31 ty46 rfl rfl rfl ho_149 hsx_150 (by rw [List.length_drop]; omega) (by decide) ?_
          intro a_151 c_152 w_153 ho_154 K_155 hm_156
          have pr_157 : ∀ q_, own a_151 q_ → ¬ own a_1 q_ := hm_156.apart (fun q_ h_ => pr_62 q_ (own_adv q_ h_)) ho_4.own_lt
          have pr_158 : ∀ q_, own a_151 q_ → ¬ own a_16 q_ := hm_156.apart (fun q_ h_ => pr_63 q_ (own_adv q_ h_)) ho_19.own_lt
          have pr_159 : ¬ own a_151 b_81 := hm_156.not (fun h_ => pr_90 (own_adv _ h_)) hb_84.lt
          have pr_160 : ∀ q_, own a_151 q_ → ¬ own (some ⟨b_94, 0, none⟩) q_ := hm_156.apart (fun q_ h1 h2 => (fun q_ h1_ h2_ => pr_102 q_ h1_ (own_adv q_ h2_)) q_ h2 h1) ho_97.own_lt
          have pr_161 : ∀ q_, own a_151 q_ → ¬ own a_106 q_ := hm_156.apart (fun q_ h1 h2 => (fun q_ h1_ h2_ => pr_116 q_ h1_ (own_adv q_ h2_)) q_ h2 h1) ho_109.own_lt
          have pr_162 : ∀ q_, own a_151 q_ → ¬ F_126 q_ := hm_156.apart (fun q_ h1 h2 => (fun q_ h1_ h2_ => pr_144 q_ h1_ (own_adv q_ h2_)) q_ h2 h1) hS_130.own_lt
          have pr_163 : ∀ q_, own a_151 q_ → ¬ own a_124 q_ := hm_156.apart (fun q_ h1 h2 => (fun q_ h1_ h2_ => pr_137 q_ h1_ (own_adv q_ h2_)) q_ h2 h1) ho_128.own_lt
          have pg_164 : ∀ q_, own a_151 q_ → w.heap.size ≤ q_ := hm_156.ge (fun q_ h_ => pr_65 q_ (own_adv q_ h_)) K0.size
          replace ho_4 := ho_4.keepO K_155 (fun q_ h1 h2 => (fun q_ h_ => pr_62 q_ (own_adv q_ h_)) q_ h2 h1)
          replace ho_19 := ho_19.keepO K_155 (fun q_ h1 h2 => (fun q_ h_ => pr_63 q_ (own_adv q_ h_)) q_ h2 h1)
          replace hb_84 := hb_84.keep K_155 (fun h_ => pr_90 (own_adv _ h_))
          replace ho_97 := ho_97.keepO K_155 (fun q_ h1_ h2_ => pr_102 q_ h1_ (own_adv q_ h2_))
          replace ho_109 := ho_109.keepO K_155 (fun q_ h1_ h2_ => pr_116 q_ h1_ (own_adv q_ h2_))
          replace hS_130 := hS_130.keepO K_155 (fun q_ h1_ h2_ => pr_144 q_ h1_ (own_adv q_ h2_))
          replace ho_128 := ho_128.keepO K_155 (fun q_ h1_ h2_ => pr_137 q_ h1_ (own_adv q_ h2_))
          replace K0 := K0.new K_155 (fun q_ h_ => pr_65 q_ (own_adv q_ h_))
          clear hm_156
          refine ⟨.inr ⟨hb_84, trivial⟩, ?_⟩
          refine RT.takeP (v := .slice (a_151) (((Q.drop 1) ++ T1).length) (c_152)) 8 rfl (by kernel_rfl) (.inr ⟨hb_84, trivial⟩) (fun _ => (x_assignSl rfl)) ?_
          refine RT.done (by kernel_rfl) ?_
          refine Run.region ?_
          refine RL.val (x_moveI rfl) ?_
          refine RL.val (litI (c := ((a + 1 : Nat) : Int)) (x_add rfl rfl (by omega) (by omega)) rfl) ?_
          refine RL.val (x_assignI rfl) ?_
          refine RL.nil ?_
          refine Run.inBlock ?_
          have e := take_snoc' g5
          refine ih1 (a + 1) _ _ ?_ (by omega)
          rw [e]
          refine ⟨(Q.drop 1 ++ T1), xs1, r1, (a : Int), _, _, _, _, _, ⟨rfl, rfl, rfl, rfl, rfl, rfl, rfl, trivial⟩, K0, ho_4, ho_19, hS_130, ho_154, ho_109, pr_142, pr_143, (fun q_ h1 h2 => pr_162 q_ h2 h1), pr_147, pg_148, pr_157, pr_158, pr_161, pg_164, pr_113, pr_114, pg_119, ?_, ?_, ?_⟩
          · exact hI1
          · omega
          · omega
    · try simp only [br] at hc58
      refine Run.exit rfl ?_
      refine Run.seq ?_
      obtain ⟨q1, q2, q3, q4, q5⟩ := hI.len
      have hx0 : xs.length = 0 := by omega
      have hae : a = (fineL keys).length := by omega
      have htk := List.length_take_le a (fineL keys)
      refine Run.region ?_
      refine RL.val (x_moveI rfl) ?_
      refine RL.val (x_moveSl rfl) ?_
      refine RL.val (x_lenSl Try.underlying22 rfl) ?_
      refine RL.val (litT (x_eqI rfl rfl) (by simp only [beq_iff_eq]; omega)) ?_
      refine RL.val (x_moveB rfl) ?_
      refine RL.gst (wantedT1 rfl rfl rfl rfl) <| St1.val (x_moveP rfl) ?_
      refine RL.gst (wantedT1 rfl rfl rfl rfl) <| St1.val (x_moveI rfl) ?_
      refine RL.gst (wantedT1 rfl rfl rfl rfl) <| St1.val (x_moveI rfl) ?_
      refine RL.gst (wantedT1 rfl rfl rfl rfl) <| St1.call (vals := [.pointer (some ⟨s_8, 0, none⟩), .int .i64 (p0), .int .i64 (1 + n0)]) en18 rfl (ret_mono (al_done hO_54) (fun v w' h => ⟨h.1.trans (by rw [decide_eq_true (by omega)]), h.2⟩) : Calls _ _ _ _ (Ret fun v w' => v = .bool true ∧ Ext _ w')) ?_
      rintro _ w_165 ⟨rfl, K_166⟩
      replace ho_4 := ho_4.ext K_166
      replace ho_19 := ho_19.ext K_166
      replace hO_54 := hO_54.ext K_166
      replace ho_55 := ho_55.ext K_166
      replace ho_56 := ho_56.ext K_166
      replace K0 := K0.ext K_166
      refine RL.val (x_andT rfl rfl rfl) ?_
      refine RL.val (x_moveB rfl) ?_
      refine RL.gst (wantedT1 rfl rfl rfl rfl) <| St1.val (x_moveP rfl) ?_
      refine RL.gst (wantedT1 rfl rfl rfl rfl) <| St1.call (vals := [.pointer (some ⟨s_8, 0, none⟩)]) en21 rfl (al_open hO_54 hx0) ?_
      rintro _ w_169 ⟨a_167, c_168, rfl, ho_170, hg_171, K_172⟩
      have pr_173 : ∀ q_, own a_167 q_ → ¬ own a_1 q_ := apartNew hg_171 ho_4.own_lt
      have pr_174 : ∀ q_, own a_167 q_ → ¬ own a_16 q_ := apartNew hg_171 ho_19.own_lt
      have pr_175 : ∀ q_, own a_167 q_ → ¬ F1 q_ := apartNew hg_171 hO_54.own_lt
      have pr_176 : ∀ q_, own a_167 q_ → ¬ own aq q_ := apartNew hg_171 ho_55.own_lt
      have pr_177 : ∀ q_, own a_167 q_ → ¬ own at2 q_ := apartNew hg_171 ho_56.own_lt
      have pg_178 : ∀ q_, own a_167 q_ → w.heap.size ≤ q_ := fun q_ h => Nat.le_trans K0.size (hg_171 q_ h)
      clear hg_171
      replace ho_4 := ho_4.ext K_172
      replace ho_19 := ho_19.ext K_172
      replace hO_54 := hO_54.ext K_172
      replace ho_55 := ho_55.ext K_172
      replace ho_56 := ho_56.ext K_172
      replace K0 := K0.ext K_172
      refine RL.gst (wantedT1 rfl rfl rfl rfl) <| St1.val (x_lenSl Try.underlying64 rfl) ?_
      refine RL.gst (wantedT1 rfl rfl rfl rfl) <| St1.val (litT (x_eqI rfl rfl) (by rfl)) ?_
      refine RL.val (x_andT rfl rfl rfl) ?_
      refine RL.val (x_moveB rfl) ?_
      refine RL.gst (wantedT1 rfl rfl rfl rfl) <| St1.val (x_moveSl rfl) ?_
      refine RL.gst (wantedT1 rfl rfl rfl rfl) <| St1.val (x_moveSl rfl) ?_
      refine RL.gst (wantedT1 rfl rfl rfl rfl) <| St1.call (vals := [.slice (at2) (((fineL keys).take a).length) (ct2), .slice (a_1) ((fineL keys).length) (c_2)]) en27 rfl (equal_str _ _ _ _ _ _ _ ho_56.sl ho_4.sl (by omega)) ?_
      rintro _ w_179 ⟨rfl, K_180⟩
      replace ho_4 := ho_4.ext K_180
      replace ho_19 := ho_19.ext K_180
      replace hO_54 := hO_54.ext K_180
      replace ho_55 := ho_55.ext K_180
      replace ho_56 := ho_56.ext K_180
      replace ho_170 := ho_170.ext K_180
      replace K0 := K0.ext K_180
      refine RL.val (x_andT rfl rfl rfl) ?_
      refine RL.val (x_assignB rfl) ?_
      refine RL.nil ?_
      refine Run.ret1 (v := .bool (decide ((fineL keys).take a = fineL keys))) Try.func7 rfl rfl ?_
      exact ⟨_, rfl, congrArg Value.bool (by rw [hae, List.take_length]; simp), K0⟩

end Go.Proofs.Ythhhkjmlnjbnjaa
