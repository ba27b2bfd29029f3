/-
  HandoffAgain.
-/
import Derived.Test.YthhhkjmlnjbnjaaRows
import Derived.Test.YthhhkjmlnjbnjaaOh
namespace Go.Proofs.Ythhhkjmlnjbnjaa
attribute [local irreducible] St1 RL RA RT RT1 Run

/-! ### keys that get numbers, one behind the other -/
def numL (now r : Int) : List ByteArray → List Item
  | [] => []
  | k :: l => ⟨k, r + 1, now⟩ :: numL now (r + 1) l
section
variable {now r : Int} {l : List ByteArray} {xs : List Item}
theorem numL_len : ∀ {r : Int} {l : List ByteArray}, (numL now r l).length = l.length
  | _, [] => rfl
  | r, k :: l => by rw [numL, List.length_cons, List.length_cons, numL_len]
theorem numL_get : ∀ {l : List ByteArray} {r : Int} {i : Nat} {k : ByteArray}, l[i]? = some k → (numL now r l)[i]? = some ⟨k, r + 1 + (i : Int), now⟩
  | [], _, _, _, h => by simp at h
  | x :: l, r, 0, k, h => by simp at h; subst h; simp [numL]
  | x :: l, r, i + 1, k, h => by
    simp only [List.getElem?_cons_succ] at h
    rw [numL, List.getElem?_cons_succ, numL_get h]
    congr 2
    omega
theorem numL_mem : ∀ {l : List ByteArray} {r : Int} {x : Item}, x ∈ numL now r l → r + 1 ≤ x.req ∧ x.since = now
  | [], _, _, h => by simp [numL] at h
  | k :: l, r, x, h => by
    rw [numL] at h
    rcases List.mem_cons.1 h with rfl | h
    · exact ⟨Int.le_refl _, rfl⟩
    · have := numL_mem h; exact ⟨by omega, this.2⟩
theorem numL_key : ∀ {l : List ByteArray} {r : Int}, (numL now r l).map (·.key) = l
  | [], _ => rfl
  | k :: l, r => by rw [numL, List.map_cons, numL_key]
theorem fold_new : ∀ (xs : List Item) (s : Sd), (∀ x ∈ xs, x.since < 0) → s.c + xs.length ≤ 4 → xs.foldl (sdStep now) s = ⟨s.c + xs.length, s.r + xs.length, s.L ++ numL now s.r (xs.map (·.key)), s.T ++ numL now s.r (xs.map (·.key))⟩
  | [], s, _, _ => by simp [numL]
  | x :: xs, s, h, hl => by
    rw [List.length_cons] at hl
    have h0 := h x (by simp)
    rw [List.foldl_cons, sdStep, if_neg (by omega), fold_new xs _ (fun y hy => h y (by simp [hy])) (by simp only; omega)]
    simp only [List.map_cons, numL, List.length_cons, List.append_assoc, List.singleton_append, Sd.mk.injEq, and_true]
    omega
theorem fold_wait : ∀ (xs : List Item) (s : Sd), (∀ x ∈ xs, 0 ≤ x.since) → xs.foldl (sdStep now) s = ⟨s.c, s.r, s.L ++ xs, s.T⟩
  | [], s, _ => by simp
  | x :: xs, s, h => by
    rw [List.foldl_cons, sdStep, if_pos (.inl (h x (by simp))), fold_wait xs _ (fun y hy => h y (by simp [hy]))]
    simp
theorem tell_fold : tellP now r xs = (agedL now xs).foldl (sdStep now) ⟨(agedL now xs).countP sentI, r, [], []⟩ := by
  rw [tellP, sdI, List.take_of_length_le (by rw [aged_len]; exact Nat.le_refl _)]
theorem tell_new (h : ∀ x ∈ xs, (ageI now x).since < 0) (hl : xs.length ≤ 4) : tellP now r xs = ⟨xs.length, r + xs.length, numL now r (xs.map (·.key)), numL now r (xs.map (·.key))⟩ := by
  have h1 : ∀ x ∈ agedL now xs, x.since < 0 := fun x hx => by obtain ⟨y, hy, rfl⟩ := List.mem_map.1 hx; exact h y hy
  have h2 : (agedL now xs).countP sentI = 0 := List.countP_eq_zero.2 fun x hx => by have := h1 x hx; simp only [sentI, decide_eq_true_eq]; omega
  have h3 : (agedL now xs).map (·.key) = xs.map (·.key) := by
    rw [agedL, List.map_map]
    exact List.map_congr_left fun x _ => by simp only [Function.comp, ageI]; split <;> rfl
  rw [tell_fold, h2, fold_new _ _ h1 (by simp only [aged_len]; omega), h3]
  simp [aged_len]
theorem tell_wait (h : ∀ x ∈ xs, 0 ≤ x.since ∧ now - x.since < 1000) : tellP now r xs = ⟨xs.length, r, xs, []⟩ := by
  have h1 : agedL now xs = xs := by
    rw [agedL]
    exact (List.map_congr_left fun x hx => age_no (by have := h x hx; omega)).trans (List.map_id'' (fun _ => rfl) _)
  have h2 : xs.countP sentI = xs.length := List.countP_eq_length.2 fun x hx => by have := h x hx; simp only [sentI, decide_eq_true_eq]; omega
  rw [tell_fold, h1, h2, fold_wait _ _ (fun x hx => (h x hx).1)]
  simp
theorem newI_key (l : List ByteArray) : (newI l).map (·.key) = l := by rw [newI, List.map_map]; exact (List.map_congr_left fun _ _ => rfl).trans (List.map_id'' (fun _ => rfl) _)
theorem newI_len (l : List ByteArray) : (newI l).length = l.length := List.length_map ..
theorem tick_one {self part to : Int} : tickP self now r [⟨part, to, xs⟩] = ⟨(tellP now r xs).r, [⟨part, to, (tellP now r xs).L⟩], (tellP now r xs).T.map (msgH self to part)⟩ := rfl
end
theorem u64_nonneg (t : Int) : 0 ≤ IntKind.u64.wrap t := by
  have e1 : IntKind.u64.signed = false := rfl
  have e2 : (2 : Int) ^ IntKind.u64.bits = 18446744073709551616 := by decide
  simp only [IntKind.wrap, e1, e2, Bool.false_and]
  exact Int.emod_nonneg _ (by decide)
theorem few_d (m t : Int) (hm : 0 < m) (hm2 : m ≤ 9223372036854775807) : ∃ d : Int, IntKind.i64.wrap ((IntKind.u64.wrap t).tmod m) = d ∧ 0 ≤ d ∧ d < m := by
  have h1 : 0 ≤ (IntKind.u64.wrap t).tmod m := Int.tmod_nonneg _ (u64_nonneg t)
  have h2 : (IntKind.u64.wrap t).tmod m < m := Int.tmod_lt_of_pos _ hm
  exact ⟨_, wrap64 _ (by omega) (by omega), h1, h2⟩
/-! ### HandoffAgain, call by call -/
section
variable {w : World} {s : Nat} {F : Nat → Prop} {L : List ByteArray} {f : Int}
theorem beg_rising {self part to : Int} (hR : Rising L) (hk : L.any (fun k => !isKey k) = false) (hm : mayE self part to = 0) : begE self ([] : List (PTr Item)) part to L = 0 ∧ begL self ([] : List (PTr Item)) part to L (newI (uniq (sortN L))) = [⟨part, to, newI L⟩] := by
  rw [sort_rising hR, uniq_rising hR]
  exact beg_ok (pl := []) hm hk rfl
theorem ag_begin (h : SndAt w s F 0 0 0 []) (hR : Rising L) (hk : L.any (fun k => !isKey k) = false) (ak : Option Addr) (ck : Nat) (hka : SlOf w ak L) (hdk : ∀ x, ak = some x → ¬ F x.block) (hl : L.length ≤ 60) :
    Calls Try.prog 11 #[.pointer (some ⟨s, 0, none⟩), .int .i64 0, .int .i64 1, .slice ak L.length ck] w (Ret (SStep s F w 0 0 0 0 [⟨0, 1, newI L⟩])) := by
  have := beginD h 0 1 ak L ck (by decide) hka hdk (by omega) (fun k hk2 => by have := List.any_eq_false.1 hk k hk2; have := isKey_size (k := k) (by simpa using this); omega)
  obtain ⟨e1, e2⟩ := beg_rising (self := 0) (part := 0) (to := 1) hR hk (by decide)
  rwa [e1, e2] at this
theorem ag_tick1 (h : SndAt w s F 0 0 0 [⟨0, 1, newI L⟩]) (hl : L.length ≤ 4) (hf : 0 ≤ f ∧ f ≤ 1099511627775) :
    Calls Try.prog 14 #[.pointer (some ⟨s, 0, none⟩), .int .i64 f] w (Ret (MStep s F w ((numL f 0 L).map (msgH 0 1 0)) 0 f (L.length : Int) [⟨0, 1, numL f 0 L⟩])) := by
  have := tickD h f (by show 1 ≤ 1000; omega) (by omega) (by decide)
  rw [Int.max_eq_right hf.1, tick_one, tell_new (fun x hx => by obtain ⟨k, _, rfl⟩ := List.mem_map.1 hx; rw [age_no (by simp)]; show (-1 : Int) < 0; omega) (by rw [newI_len]; exact hl), newI_key, newI_len] at this
  simpa using this
theorem ag_tick2 (h : SndAt w s F 0 f (L.length : Int) [⟨0, 1, numL f 0 L⟩]) (hl : L.length ≤ 4) (hf : 0 ≤ f ∧ f ≤ 1099511627775) :
    Calls Try.prog 14 #[.pointer (some ⟨s, 0, none⟩), .int .i64 (f + 999)] w (Ret (MStep s F w ([] : List HMsg) 0 (f + 999) (L.length : Int) [⟨0, 1, numL f 0 L⟩])) := by
  have := tickD h (f + 999) (by show 1 ≤ 1000; omega) (by omega) (by omega)
  rw [Int.max_eq_right (by omega), tick_one, tell_wait (fun x hx => by rw [(numL_mem hx).2]; omega)] at this
  exact this
theorem ag_tick3 (h : SndAt w s F 0 (f + 999) (L.length : Int) [⟨0, 1, numL f 0 L⟩]) (hl : L.length ≤ 4) (hf : 0 ≤ f ∧ f ≤ 1099511627775) :
    Calls Try.prog 14 #[.pointer (some ⟨s, 0, none⟩), .int .i64 (f + 1000)] w (Ret (MStep s F w ((numL (f + 1000) (L.length : Int) L).map (msgH 0 1 0)) 0 (f + 1000) ((L.length : Int) + (L.length : Int)) [⟨0, 1, numL (f + 1000) (L.length : Int) L⟩])) := by
  have := tickD h (f + 1000) (by show 1 ≤ 1000; omega) (by omega) (by omega)
  rw [Int.max_eq_right (by omega), tick_one, tell_new (fun x hx => by have h2 := (numL_mem hx).2; rw [age_yes (by omega) (by omega)]; show (-1 : Int) < 0; omega) (by rw [numL_len]; exact hl), numL_key, numL_len] at this
  exact this
theorem ag_left {now r : Int} (h : SndAt w s F 0 now r [⟨0, 1, numL (f + 1000) (L.length : Int) L⟩]) : Calls Try.prog 17 #[.pointer (some ⟨s, 0, none⟩), .int .i64 0, .int .i64 1] w (Ret fun v w' => v = .int .i64 ((L.length : Nat) : Int) ∧ Ext w w') := by
  have := leftD h 0 1 (by show 1 ≤ 1000; omega)
  rw [show leftN [⟨0, 1, numL (f + 1000) (L.length : Int) L⟩] 0 1 = (numL (f + 1000) (L.length : Int) L).length from rfl, numL_len] at this
  exact this
theorem ext_of_one {w' : World} {c : List Value} {T : TypeId} (K : Keeps (one s) w w') (h : Blk w s c T) (h' : Blk w' s c T) : Ext w w' :=
  ⟨K.os, K.tape, K.output, K.size, fun k hk _ => by
    by_cases e : k = s
    · subst e; exact Eq.trans h' (Eq.symm h)
    · exact K.block k hk e⟩
/-- a message that acknowledges nothing -/
def NoAck (pl : List (PTr Item)) (m : HMsg) : Prop := ∀ (k : Nat) (t : PTr Item), pl.findIdx? (sameT m.part m.frm) = some k → pl[k]? = some t → t.left.findIdx? (ackI m.key m.req) = none

theorem en9 : Enters Try.prog 9 := enters_of Try.func9 rfl (by kernel_rfl)
theorem en12 : Enters Try.prog 12 := enters_of Try.func12 rfl (by kernel_rfl)
theorem en16 : Enters Try.prog 16 := enters_of Try.func16 rfl (by kernel_rfl)

end
set_option maxRecDepth 100000 in
set_option maxHeartbeats 4000000 in
theorem onq_ (s : Nat) (al : Option Addr) (cl : Nat) (self now req : Int) (ts : List (TrS Item)) (m : HMsg) (tm : Int) (w : World) (hD : SndO w s al cl self now req ts) (hL : ts.length ≤ 1000) (htm : tm ≤ now) (hno : NoAck (ts.map TrS.p) m) :
    Calls Try.prog 15 #[.pointer (some ⟨s, 0, none⟩), .agg #[.int .i64 ((m).kind), .int .i64 ((m).frm), .int .i64 ((m).to), .int .i64 ((m).req), .string ((m).key), .slice (none) (0) (0), .slice (none) (0) (0), .slice (none) (0) (0), .int .i64 (0), .int .i64 ((m).part), .int .i64 (0), .int .i64 (0), .int .i64 (0), .int .i64 (0), .slice (none) (0) (0), .slice (none) (0) (0), .slice (none) (0) (0)], .int .i64 (tm)] w (Ret (fun v w' => v = .slice none 0 0 ∧ Ext w w')) := by
  obtain ⟨hB, ho, hT, hos, htss, hto, hok⟩ := hD
  have hlp := ptr_len ts
  have hs0 := hok.self0
  have hn0 := hok.now0
  have hB0 := hB
  refine calls_run (n := 66) Try.func15 rfl rfl rfl ?_
  refine Run.seq ?_
  refine Run.region ?_
  refine RL.st rfl <| St1.box (v := .agg #[.int .i64 ((m).kind), .int .i64 ((m).frm), .int .i64 ((m).to), .int .i64 ((m).req), .string ((m).key), .slice (none) (0) (0), .slice (none) (0) (0), .slice (none) (0) (0), .int .i64 (0), .int .i64 ((m).part), .int .i64 (0), .int .i64 (0), .int .i64 (0), .int .i64 (0), .slice (none) (0) (0), .slice (none) (0) (0), .slice (none) (0) (0)]) rfl ?_
  intro b_1 w_2 hl_5 hb_4 K_3
  replace hb_4 : Blk w_2 b_1 [.int .i64 ((m).kind), .int .i64 ((m).frm), .int .i64 ((m).to), .int .i64 ((m).req), .string ((m).key), .slice (none) (0) (0), .slice (none) (0) (0), .slice (none) (0) (0), .int .i64 (0), .int .i64 ((m).part), .int .i64 (0), .int .i64 (0), .int .i64 (0), .int .i64 (0), .slice (none) (0) (0), .slice (none) (0) (0), .slice (none) (0) (0)] 46 := hb_4
  have ne_6 : s < b_1 := Nat.lt_of_lt_of_le hB.lt hl_5
  have pr_7 : ¬ own al b_1 := fun h => absurd (ho.own_lt _ h) (by omega)
  have pr_8 : ¬ trsS ts b_1 := fun h => absurd (hT.own_lt _ h) (by omega)
  have : w.heap.size ≤ b_1 := hl_5
  clear hl_5
  replace hB := hB.ext K_3
  replace ho := ho.ext K_3
  replace hT := hT.ext K_3
  have K0 := (K_3 : Ext w _).to (S := (one s))
  refine RL.val (x_assignSl rfl) ?_
  refine RL.nil ?_
  refine Run.seq ?_
  refine Run.seq ?_
  refine Run.region ?_
  refine RL.val (x_moveP rfl) ?_
  refine RL.st rfl <| St1.call (vals := [.pointer (some ⟨s, 0, none⟩)]) en49 rfl (there_ s al cl self now req ts _ (⟨hB, ho, hT, hos, htss, hto, hok⟩ : SndO _ s al cl self now req ts) hL) ?_
  rintro _ _ ⟨rfl, rfl⟩
  refine RL.val (x_not rfl) ?_
  refine RL.nil ?_
  refine Run.condF rfl ?_
  refine Run.skip ?_
  refine Run.seq ?_
  refine Run.region ?_
  refine RL.val (x_moveP rfl) ?_
  refine RL.val (x_moveP rfl) ?_
  refine RL.val (x_nilCheck rfl) ?_
  refine RL.val (x_fld (o' := 2) Try.underlying60 rfl ty3 rfl rfl rfl) ?_
  refine RL.val (x_ld (v := .int .i64 (now)) ty3 rfl rfl (hB.cl.field (i := 2) rfl)) ?_
  refine RL.val (x_moveI rfl) ?_
  refine RL.val (x_maxI rfl rfl) ?_
  refine RL.val (x_nilCheck rfl) ?_
  refine RL.val (x_fld (o' := 2) Try.underlying60 rfl ty3 rfl rfl rfl) ?_
  refine RL.st rfl <| St1.store (v := .int .i64 (max now tm)) ty3 rfl rfl rfl (by simp [Value.cells, Value.oneCell']) hB (by simp) ?_
  intro w_9 hB_ K_10
  have hB' : Blk w_9 s [.bool (true), .int .i64 (self), .int .i64 (max now tm), .int .i64 (req), .slice (al) ((ts.map TrS.ptr).length) (cl)] 60 := hB_
  clear hB_
  replace ho := ho.keepO K_10 (fun q_ hq_ eq_ => hos (by simp only [one] at eq_; rw [← eq_]; exact hq_))
  replace hT := hT.keepO K_10 (fun q_ hq_ eq_ => htss (by simp only [one] at eq_; rw [← eq_]; exact hq_))
  replace hb_4 := hb_4.keep K_10 (by simp only [one]; omega)
  replace K0 := K0.trans K_10 (fun x _ hx => by simp only [one] at hx; subst hx; exact rfl)
  replace hB := hB'
  clear hB'
  refine RL.nil ?_
  refine Run.seq ?_
  refine Run.region ?_
  refine RL.val (x_moveP rfl) ?_
  refine RL.val (x_fld (o' := 9) Try.underlying46 rfl ty3 rfl rfl rfl) ?_
  refine RL.val (x_ld (v := .int .i64 ((m).part)) ty3 rfl rfl (hb_4.cl.field (i := 9) rfl)) ?_
  refine RL.val (x_fld (o' := 1) Try.underlying46 rfl ty3 rfl rfl rfl) ?_
  refine RL.val (x_ld (v := .int .i64 ((m).frm)) ty3 rfl rfl (hb_4.cl.field (i := 1) rfl)) ?_
  refine RL.st rfl <| St1.call (vals := [.pointer (some ⟨s, 0, none⟩), .int .i64 ((m).part), .int .i64 ((m).frm)]) en45 rfl (find_ s al cl self (max now tm) req ts ((m).part) ((m).frm) _ (⟨hB, ho, hT, hos, htss, hto, hok.mono (by omega) (by omega)⟩ : SndO _ s al cl self (max now tm) req ts) hL) ?_
  rintro _ w_11 ⟨rfl, K_12⟩
  replace hB := hB.ext K_12
  replace ho := ho.ext K_12
  replace hT := hT.ext K_12
  replace hb_4 := hb_4.ext K_12
  replace K0 := K0.ext K_12
  refine RL.val (x_assignI rfl) ?_
  refine RL.nil ?_
  refine Run.seq ?_
  refine Run.seq ?_
  refine Run.region ?_
  refine RL.val (x_fld (o' := 0) Try.underlying46 rfl ty3 rfl rfl rfl) ?_
  refine RL.val (x_ld (v := .int .i64 ((m).kind)) ty3 rfl rfl (hb_4.cl.field (i := 0) rfl)) ?_
  refine RL.val (x_neI rfl rfl) ?_
  refine RL.val (x_moveB rfl) ?_
  refine RL.gval (wantedF rfl rfl rfl rfl) (fun hg => (x_moveI rfl)) ?_
  refine RL.gval (wantedF rfl rfl rfl rfl) (fun hg => (x_ltI (gvr hg) rfl)) ?_
  refine RL.val (x_or rfl rfl rfl) ?_
  refine RL.nil ?_
  refine Run.cond rfl (fun hc34 => ?_) (fun hc34 => ?_)
  · try simp only [br] at hc34
    refine Run.seq ?_
    refine Run.region ?_
    refine RL.val (x_assignSl rfl) ?_
    refine RL.nil ?_
    refine Run.ret1 (v := .slice (none) (0) (0)) Try.func15 rfl rfl ?_
    exact ⟨_, rfl, rfl, ext_of_one K0 hB0 (by rw [Int.max_eq_left htm] at hB; exact hB)⟩
  · try simp only [br] at hc34
    obtain ⟨k, t, l1, l2, hk, hkl, hts, hl1, hti, hpt, hst, hfs, hfx⟩ := tr_yes (ts := ts) (part := m.part) (to := m.frm) (by omega)
    rw [hk]
    have hna := hno k t.p hfx (p_get hti)
    have hsl := (hT.all t (mem_tr hts)).own.sl
    have hbt := (hT.all t (mem_tr hts)).blk
    have hLt := hok.at (mem_tr hts)
    have ne_13 : t.blk ≠ s := fun e_ => htss (e_ ▸ trs_subB hts)
    have ne_14 : t.blk ≠ b_1 := fun e_ => pr_8 (e_ ▸ trs_subB hts)
    refine Run.skip ?_
    refine Run.seq ?_
    refine Run.region ?_
    refine RL.val (x_moveP rfl) ?_
    refine RL.val (x_nilCheck rfl) ?_
    refine RL.val (x_fld (o' := 4) Try.underlying60 rfl ty58 rfl rfl rfl) ?_
    refine RL.val (x_ld (v := .slice (al) ((ts.map TrS.ptr).length) (cl)) ty58 rfl rfl (hB.cl.field (i := 4) rfl)) ?_
    refine RL.val (x_moveI rfl) ?_
    obtain ⟨b_15, o_16, x_19, hx_20, ha_17, hc_18⟩ := ho.sl.el (i := k) (by first | omega | (simp only [List.length_set]; omega))
    obtain rfl : (some (⟨t.blk, 0, none⟩ : Addr)) = x_19 := Option.some.inj (hpt.symm.trans hx_20)
    refine RL.val (x_idxN Try.underlying58 ty90 rfl rfl ha_17 (by first | omega | (simp only [List.length_set]; omega))) ?_
    refine RL.val (x_ldV (v := .pointer (some ⟨t.blk, 0, none⟩)) (y := (some (⟨t.blk, 0, none⟩ : Addr))) ty90 rfl hc_18 rfl) ?_
    refine RL.val (x_assignP rfl) ?_
    refine RL.nil ?_
    refine Run.seq ?_
    refine Run.region ?_
    refine RL.val (x_moveP rfl) ?_
    refine RL.val (x_nilCheck rfl) ?_
    refine RL.val (x_fld (o' := 2) Try.underlying89 rfl ty87 rfl rfl rfl) ?_
    refine RL.val (x_ld (v := .slice (t.a) (t.left.length) (t.cap)) ty87 rfl rfl (hbt.cl.field (i := 2) rfl)) ?_
    refine RL.val (x_mkFunc (a := []) (c := [.pointer (some ⟨b_1, 0, none⟩)]) rfl rfl) ?_
    refine RL.st rfl <| St1.call (vals := [.slice (t.a) (t.left.length) (t.cap), .func (.func 52) #[] #[.pointer (some ⟨b_1, 0, none⟩)]]) en51 rfl (indexFunc_item _ _ _ 52 _ (ackI m.key m.req) en52 _ hsl (by omega) (fun x _ w' K' => on1_ _ m x w' (hb_4.ext K'))) ?_
    rintro _ w_21 ⟨rfl, K_22⟩
    replace hB := hB.ext K_22
    replace ho := ho.ext K_22
    replace hT := hT.ext K_22
    replace hb_4 := hb_4.ext K_22
    replace hbt := hbt.ext K_22
    replace hsl := hsl.ext K_22
    replace K0 := K0.ext K_22
    refine RL.val (x_assignI rfl) ?_
    refine RL.nil ?_
    refine Run.seq ?_
    refine Run.seq ?_
    refine Run.region ?_
    refine RL.val (x_moveI rfl) ?_
    refine RL.val (x_ltI rfl rfl) ?_
    refine RL.nil ?_
    refine Run.cond rfl (fun hc49 => ?_) (fun hc49 => ?_)
    · try simp only [br] at hc49
      refine Run.seq ?_
      refine Run.region ?_
      refine RL.val (x_assignSl rfl) ?_
      refine RL.nil ?_
      refine Run.ret1 (v := .slice (none) (0) (0)) Try.func15 rfl rfl ?_
      exact ⟨_, rfl, rfl, ext_of_one K0 hB0 (by rw [Int.max_eq_left htm] at hB; exact hB)⟩
    · try simp only [br] at hc49
      exfalso
      obtain ⟨j, hj, hjl, hjp, hjn⟩ := findI_some (p := ackI m.key m.req) (xs := t.left) rfl (by omega)
      have := findIdx_some (List.getElem?_eq_getElem hjl) (hjp _ (List.getElem?_eq_getElem hjl)) hjn
      rw [show t.p.left = t.left from rfl, this] at hna; cases hna

section
variable {w : World} {s : Nat} {F : Nat → Prop} {L : List ByteArray} {f : Int}
theorem onQ {self now req : Int} {pl : List (PTr Item)} (h : SndAt w s F self now req pl) (m : HMsg) (tm : Int) (hL : pl.length ≤ 1000) (ht : tm ≤ now) (hno : NoAck pl m) :
    Calls Try.prog 15 #[.pointer (some ⟨s, 0, none⟩), .agg #[.int .i64 ((m).kind), .int .i64 ((m).frm), .int .i64 ((m).to), .int .i64 ((m).req), .string ((m).key), .slice (none) (0) (0), .slice (none) (0) (0), .slice (none) (0) (0), .int .i64 (0), .int .i64 ((m).part), .int .i64 (0), .int .i64 (0), .int .i64 (0), .int .i64 (0), .slice (none) (0) (0), .slice (none) (0) (0), .slice (none) (0) (0)], .int .i64 tm] w (Ret fun v w' => v = .slice none 0 0 ∧ Ext w w') := by
  obtain ⟨al, cl, ts, rfl, rfl, hD⟩ := h
  exact onq_ s al cl self now req ts m tm w hD (by rwa [List.length_map] at hL) ht hno
theorem ag_at {i : Nat} (hi : i < L.length) : ∃ y, L[i]? = some y ∧ ((numL f 0 L).map (msgH 0 1 0))[i]? = some (⟨10, 0, 1, (i : Int) + 1, y, 0⟩ : HMsg) ∧ ((numL (f + 1000) (L.length : Int) L).map (msgH 0 1 0))[i]? = some (⟨10, 0, 1, (L.length : Int) + 1 + (i : Int), y, 0⟩ : HMsg) := by
  have hy : L[i]? = some L[i] := List.getElem?_eq_getElem hi
  refine ⟨_, hy, ?_, ?_⟩
  · rw [List.getElem?_map, numL_get hy]
    simp only [Option.map_some, msgH]
    congr 2
    omega
  · rw [List.getElem?_map, numL_get hy]; rfl
theorem ag_no {i : Nat} {y : ByteArray} (hi : i < L.length) : NoAck [⟨0, 1, numL (f + 1000) (L.length : Int) L⟩] (handedM ⟨10, 0, 1, (i : Int) + 1, y, 0⟩) := fun k t hk ht => by
  have : t = ⟨0, 1, numL (f + 1000) (L.length : Int) L⟩ := by
    cases k with
    | zero => simpa using ht.symm
    | succ k => simp at ht
  subst this
  rw [List.findIdx?_eq_none_iff]
  intro x hx
  have := (numL_mem hx).1
  simp only [ackI, handedM, Bool.and_eq_false_iff, decide_eq_false_iff_not]
  right
  exact decide_eq_false (by show ¬ x.req = (i : Int) + 1; omega)
end

set_option maxRecDepth 100000 in
set_option maxHeartbeats 4000000 in
theorem law_again (ak : Option Addr) (keys : List ByteArray) (ck : Nat) (from_ : Int) (w : World) (hka : SlOf w ak keys) (hkyl : keys.length ≤ 1048576) (hks : ∀ k ∈ keys, k.size ≤ 4294967295) :
    Calls Try.prog 3 #[.slice (ak) (keys.length) (ck), .int .i64 (from_)] w (Ret (fun v w' => v = .bool true ∧ Ext w w')) := by
  refine calls_run (n := 133) Try.func3 rfl rfl rfl ?_
  refine Run.seq ?_
  refine Run.region ?_
  refine RL.val (x_assignB rfl) ?_
  refine RL.nil ?_
  refine Run.seq ?_
  refine Run.region ?_
  refine RL.val (x_moveSl rfl) ?_
  refine RL.st rfl <| St1.call (vals := [.slice (ak) (keys.length) (ck)]) en9 rfl (fine_ _ keys _ _ hka (by first | decide | assumption | omega) (by assumption)) ?_
  rintro _ w_3 ⟨a_1, c_2, rfl, ho_4, hg_5, K_6⟩
  have pg_7 : ∀ q_, own a_1 q_ → w.heap.size ≤ q_ := fun q_ h => Nat.le_trans (Nat.le_refl _) (hg_5 q_ h)
  clear hg_5
  have K0 := (K_6 : Ext w _)
  refine RL.val (x_assignSl rfl) ?_
  refine RL.nil ?_
  have hfl := fine_len keys
  refine Run.seq ?_
  refine Run.seq ?_
  refine Run.region ?_
  refine RL.val (x_moveSl rfl) ?_
  refine RL.val (x_lenSl Try.underlying22 rfl) ?_
  refine RL.val (x_gtI rfl rfl) ?_
  refine RL.nil ?_
  refine Run.cond rfl (fun hc16 => ?_) (fun hc16 => ?_)
  · try simp only [br] at hc16
    have hcp5 := ho_4.le_cap
    refine Run.region ?_
    refine RL.val (x_moveSl rfl) ?_
    refine RL.val (litSl (m' := ((fineL keys).take 4).length) (x_sliceTo (j := 4) Try.underlying22 ty9 rfl rfl (by omega)) (by rw [List.length_take]; omega)) ?_
    refine RL.val (x_assignSl rfl) ?_
    refine RL.nil ?_
    refine Run.seq ?_
    have hRL : Rising ((fineL keys).take 4) := (fine_rises keys).sublist (List.take_sublist _ _)
    have hKL : ((fineL keys).take 4).any (fun k => !isKey k) = false := List.any_eq_false.2 fun k hk => by simp [fine_mem (List.mem_of_mem_take hk)]
    have hL4 : ((fineL keys).take 4).length ≤ 4 := by rw [List.length_take]; omega
    refine Run.region ?_
    refine RL.st rfl <| St1.call (vals := [.int .i64 (0)]) en10 rfl (newD 0 _) ?_
    rintro _ w_10 (⟨hnr, rfl, K_13⟩ | ⟨hrm, s_8, F_9, rfl, hS_11, hg_12, K_13⟩)
    · exact absurd (by decide) hnr
    · have pr_14 : ∀ q_, F_9 q_ → ¬ own a_1 q_ := apartNew hg_12 ho_4.own_lt
      have pg_15 : ∀ q_, F_9 q_ → w.heap.size ≤ q_ := fun q_ h => Nat.le_trans K0.size (hg_12 q_ h)
      clear hg_12
      replace ho_4 := ho_4.ext K_13
      replace K0 := K0.ext K_13
      refine RL.val (x_moveT rfl) ?_
      refine RL.val (x_extract rfl rfl) ?_
      refine RL.val (x_extract rfl rfl) ?_
      refine RL.val (x_assignP rfl) ?_
      refine RL.val (x_assignI rfl) ?_
      refine RL.nil ?_
      refine Run.seq ?_
      refine Run.seq ?_
      refine Run.region ?_
      refine RL.val (x_moveI rfl) ?_
      refine RL.val (litF (x_neI rfl rfl) (by decide)) ?_
      refine RL.val (x_moveB rfl) ?_
      refine RL.gst (wantedF1 rfl rfl rfl rfl) <| St1.val (x_moveP rfl) ?_
      refine RL.gst (wantedF1 rfl rfl rfl rfl) <| St1.val (litF (x_ptrNil Try.underlying24 rfl rfl) rfl) ?_
      refine RL.val (x_orF rfl rfl rfl) ?_
      refine RL.val (x_moveB rfl) ?_
      refine RL.gst (wantedF1 rfl rfl rfl rfl) <| St1.val (x_moveP rfl) ?_
      refine RL.gst (wantedF1 rfl rfl rfl rfl) <| St1.val (x_moveSl rfl) ?_
      refine RL.gst (wantedF1 rfl rfl rfl rfl) <| St1.call (vals := [.slice (a_1) (((fineL keys).take 4).length) (c_2)]) en12 rfl (clone_str _ _ _ _ (ho_4.sl.take 4) (by omega)) ?_
      rintro _ w_18 ⟨a_16, c_17, rfl, ho_19, hg_20, K_21⟩
      have pr_22 : ∀ q_, own a_16 q_ → ¬ own a_1 q_ := apartNew hg_20 ho_4.own_lt
      have pr_23 : ∀ q_, own a_16 q_ → ¬ F_9 q_ := apartNew hg_20 hS_11.own_lt
      have pg_24 : ∀ q_, own a_16 q_ → w.heap.size ≤ q_ := fun q_ h => Nat.le_trans K0.size (hg_20 q_ h)
      clear hg_20
      replace ho_4 := ho_4.ext K_21
      replace hS_11 := hS_11.ext K_21
      replace K0 := K0.ext K_21
      refine RL.gst (wantedF1 rfl rfl rfl rfl) <| St1.call (vals := [.pointer (some ⟨s_8, 0, none⟩), .int .i64 (0), .int .i64 (1), .slice (a_16) (((fineL keys).take 4).length) (c_17)]) en11 rfl (ag_begin (L := ((fineL keys).take 4)) hS_11 hRL hKL _ _ ho_19.sl (fun x_ hx_ => pr_23 _ ⟨x_, hx_, rfl⟩) (by omega)) ?_
      rintro _ w_26 ⟨F_25, rfl, hS_27, hm_28, K_29⟩
      have pr_30 : ∀ q_, F_25 q_ → ¬ own a_1 q_ := hm_28.apart pr_14 ho_4.own_lt
      have pr_31 : ∀ q_, F_25 q_ → ¬ own a_16 q_ := hm_28.apart (fun q_ h1 h2 => pr_23 q_ h2 h1) ho_19.own_lt
      have pg_32 : ∀ q_, F_25 q_ → w.heap.size ≤ q_ := hm_28.ge pg_15 K0.size
      replace ho_4 := ho_4.keepO K_29 (fun q_ h1 h2 => pr_14 q_ h2 h1)
      replace ho_19 := ho_19.keepO K_29 pr_23
      replace K0 := K0.new K_29 pg_15
      clear hm_28
      refine RL.gst (wantedF1 rfl rfl rfl rfl) <| St1.val (litF (x_neI rfl rfl) (by decide)) ?_
      refine RL.val (x_orF rfl rfl rfl) ?_
      refine RL.val (x_moveB rfl) ?_
      refine RL.gst (wantedF1 rfl rfl rfl rfl) <| St1.call (vals := []) en13 rfl (awake_ _) ?_
      rintro _ w_33 ⟨rfl, K_34⟩
      replace ho_4 := ho_4.ext K_34
      replace ho_19 := ho_19.ext K_34
      replace hS_27 := hS_27.ext K_34
      replace K0 := K0.ext K_34
      refine RL.gst (wantedF1 rfl rfl rfl rfl) <| St1.val (x_not rfl) ?_
      refine RL.val (x_orF rfl rfl rfl) ?_
      refine RL.nil ?_
      refine Run.condF rfl ?_
      refine Run.skip ?_
      refine Run.seq ?_
      obtain ⟨f, hf, hf0, hf1⟩ := few_d 1099511627776 from_ (by decide) (by decide)
      have hfr : 0 ≤ f ∧ f ≤ 1099511627775 := by omega
      refine Run.region ?_
      refine RL.val (x_moveI rfl) ?_
      refine RL.val (x_convI rfl ⟨_, Try.underlying3⟩ Try.underlying30) ?_
      refine RL.val (x_rem rfl rfl (by decide)) ?_
      refine RL.val (litI (c := f) (x_convI rfl ⟨_, Try.underlying30⟩ Try.underlying3) hf) ?_
      refine RL.val (x_assignI rfl) ?_
      refine RL.nil ?_
      refine Run.seq ?_
      refine Run.region ?_
      refine RL.val (x_moveP rfl) ?_
      refine RL.val (x_moveI rfl) ?_
      refine RL.st rfl <| St1.call (vals := [.pointer (some ⟨s_8, 0, none⟩), .int .i64 (f)]) en14 rfl (ag_tick1 (L := ((fineL keys).take 4)) hS_27 hL4 hfr) ?_
      rintro _ w_38 ⟨a_35, c_36, F_37, rfl, ho_39, hg_40, hS_41, hm_42, hap_43, K_44⟩
      have pr_45 : ∀ q_, own a_35 q_ → ¬ own a_1 q_ := apartNew hg_40 ho_4.own_lt
      have pr_46 : ∀ q_, own a_35 q_ → ¬ own a_16 q_ := apartNew hg_40 ho_19.own_lt
      have pr_47 : ∀ q_, own a_35 q_ → ¬ F_25 q_ := apartNew hg_40 hS_27.own_lt
      have pg_48 : ∀ q_, own a_35 q_ → w.heap.size ≤ q_ := fun q_ h => Nat.le_trans K0.size (hg_40 q_ h)
      clear hg_40
      have pr_49 : ∀ q_, F_37 q_ → ¬ own a_1 q_ := hm_42.apart pr_30 ho_4.own_lt
      have pr_50 : ∀ q_, F_37 q_ → ¬ own a_16 q_ := hm_42.apart pr_31 ho_19.own_lt
      have pg_51 : ∀ q_, F_37 q_ → w.heap.size ≤ q_ := hm_42.ge pg_32 K0.size
      replace ho_4 := ho_4.keepO K_44 (fun q_ h1 h2 => pr_30 q_ h2 h1)
      replace ho_19 := ho_19.keepO K_44 (fun q_ h1 h2 => pr_31 q_ h2 h1)
      replace K0 := K0.new K_44 pg_32
      clear hm_42
      refine RL.val (x_moveP rfl) ?_
      refine RL.val (x_moveI rfl) ?_
      refine RL.val (x_add rfl rfl (by omega) (by omega)) ?_
      refine RL.st rfl <| St1.call (vals := [.pointer (some ⟨s_8, 0, none⟩), .int .i64 (f + 999)]) en14 rfl (ag_tick2 (L := ((fineL keys).take 4)) hS_41 hL4 hfr) ?_
      rintro _ w_55 ⟨a_52, c_53, F_54, rfl, ho_56, hg_57, hS_58, hm_59, hap_60, K_61⟩
      have pr_62 : ∀ q_, own a_52 q_ → ¬ own a_1 q_ := apartNew hg_57 ho_4.own_lt
      have pr_63 : ∀ q_, own a_52 q_ → ¬ own a_16 q_ := apartNew hg_57 ho_19.own_lt
      have pr_64 : ∀ q_, own a_52 q_ → ¬ F_37 q_ := apartNew hg_57 hS_41.own_lt
      have pr_65 : ∀ q_, own a_52 q_ → ¬ own a_35 q_ := apartNew hg_57 ho_39.own_lt
      have pg_66 : ∀ q_, own a_52 q_ → w.heap.size ≤ q_ := fun q_ h => Nat.le_trans K0.size (hg_57 q_ h)
      clear hg_57
      have pr_67 : ∀ q_, F_54 q_ → ¬ own a_1 q_ := hm_59.apart pr_49 ho_4.own_lt
      have pr_68 : ∀ q_, F_54 q_ → ¬ own a_16 q_ := hm_59.apart pr_50 ho_19.own_lt
      have pr_69 : ∀ q_, F_54 q_ → ¬ own a_35 q_ := hm_59.apart (fun q_ h1 h2 => hap_43 q_ h2 h1) ho_39.own_lt
      have pg_70 : ∀ q_, F_54 q_ → w.heap.size ≤ q_ := hm_59.ge pg_51 K0.size
      replace ho_4 := ho_4.keepO K_61 (fun q_ h1 h2 => pr_49 q_ h2 h1)
      replace ho_19 := ho_19.keepO K_61 (fun q_ h1 h2 => pr_50 q_ h2 h1)
      replace ho_39 := ho_39.keepO K_61 hap_43
      replace K0 := K0.new K_61 pg_51
      clear hm_59
      refine RL.val (x_moveP rfl) ?_
      refine RL.val (x_moveI rfl) ?_
      refine RL.val (x_add rfl rfl (by omega) (by omega)) ?_
      refine RL.st rfl <| St1.call (vals := [.pointer (some ⟨s_8, 0, none⟩), .int .i64 (f + 1000)]) en14 rfl (ag_tick3 (L := ((fineL keys).take 4)) hS_58 hL4 hfr) ?_
      rintro _ w_74 ⟨a_71, c_72, F_73, rfl, ho_75, hg_76, hS_77, hm_78, hap_79, K_80⟩
      have pr_81 : ∀ q_, own a_71 q_ → ¬ own a_1 q_ := apartNew hg_76 ho_4.own_lt
      have pr_82 : ∀ q_, own a_71 q_ → ¬ own a_16 q_ := apartNew hg_76 ho_19.own_lt
      have pr_83 : ∀ q_, own a_71 q_ → ¬ own a_35 q_ := apartNew hg_76 ho_39.own_lt
      have pr_84 : ∀ q_, own a_71 q_ → ¬ F_54 q_ := apartNew hg_76 hS_58.own_lt
      have pr_85 : ∀ q_, own a_71 q_ → ¬ own a_52 q_ := apartNew hg_76 ho_56.own_lt
      have pg_86 : ∀ q_, own a_71 q_ → w.heap.size ≤ q_ := fun q_ h => Nat.le_trans K0.size (hg_76 q_ h)
      clear hg_76
      have pr_87 : ∀ q_, F_73 q_ → ¬ own a_1 q_ := hm_78.apart pr_67 ho_4.own_lt
      have pr_88 : ∀ q_, F_73 q_ → ¬ own a_16 q_ := hm_78.apart pr_68 ho_19.own_lt
      have pr_89 : ∀ q_, F_73 q_ → ¬ own a_35 q_ := hm_78.apart pr_69 ho_39.own_lt
      have pr_90 : ∀ q_, F_73 q_ → ¬ own a_52 q_ := hm_78.apart (fun q_ h1 h2 => hap_60 q_ h2 h1) ho_56.own_lt
      have pg_91 : ∀ q_, F_73 q_ → w.heap.size ≤ q_ := hm_78.ge pg_70 K0.size
      replace ho_4 := ho_4.keepO K_80 (fun q_ h1 h2 => pr_67 q_ h2 h1)
      replace ho_19 := ho_19.keepO K_80 (fun q_ h1 h2 => pr_68 q_ h2 h1)
      replace ho_39 := ho_39.keepO K_80 (fun q_ h1 h2 => pr_69 q_ h2 h1)
      replace ho_56 := ho_56.keepO K_80 hap_60
      replace K0 := K0.new K_80 pg_70
      clear hm_78
      refine RL.val (x_assignSl rfl) ?_
      refine RL.val (x_assignSl rfl) ?_
      refine RL.val (x_assignSl rfl) ?_
      refine RL.nil ?_
      refine Run.seq ?_
      refine Run.seq ?_
      have hm1 : ((numL f 0 ((fineL keys).take 4)).map (msgH 0 1 0)).length = ((fineL keys).take 4).length := by rw [List.length_map, numL_len]
      have hm3 : ((numL (f + 1000) (((fineL keys).take 4).length : Int) ((fineL keys).take 4)).map (msgH 0 1 0)).length = ((fineL keys).take 4).length := by rw [List.length_map, numL_len]
      have hm2 : ([] : List HMsg).length = 0 := rfl
      refine Run.region ?_
      refine RL.val (x_moveSl rfl) ?_
      refine RL.val (x_lenSl Try.underlying31 rfl) ?_
      refine RL.val (x_moveSl rfl) ?_
      refine RL.val (x_lenSl Try.underlying22 rfl) ?_
      refine RL.val (x_neI rfl rfl) ?_
      refine RL.val (x_moveB rfl) ?_
      refine RL.gval (wantedF rfl rfl rfl rfl) (fun hg => (x_moveSl rfl)) ?_
      refine RL.gval (wantedF rfl rfl rfl rfl) (fun hg => (x_lenSl Try.underlying31 (gvr hg))) ?_
      refine RL.gval (wantedF rfl rfl rfl rfl) (fun hg => (x_neI (gvr hg) rfl)) ?_
      refine RL.val (x_or rfl rfl rfl) ?_
      refine RL.val (x_moveB rfl) ?_
      refine RL.gval (wantedF rfl rfl rfl rfl) (fun hg => (x_moveSl rfl)) ?_
      refine RL.gval (wantedF rfl rfl rfl rfl) (fun hg => (x_lenSl Try.underlying31 (gvr hg))) ?_
      refine RL.gval (wantedF rfl rfl rfl rfl) (fun hg => (x_moveSl rfl)) ?_
      refine RL.gval (wantedF rfl rfl rfl rfl) (fun hg => (x_lenSl Try.underlying22 (gvr hg))) ?_
      refine RL.gval (wantedF rfl rfl rfl rfl) (fun hg => (x_neI (gvr hg) (gvr hg))) ?_
      refine RL.val (x_or rfl rfl rfl) ?_
      refine RL.nil ?_
      refine Run.cond rfl (fun hc71 => ?_) (fun hc71 => ?_)
      · try simp only [br] at hc71
        exact absurd hc71 (by omega)
      · try simp only [br] at hc71
        refine Run.skip ?_
        refine Run.seq ?_
        refine Run.seq ?_
        refine Run.region ?_
        refine RL.val (x_moveSl rfl) ?_
        refine RL.val (x_lenSl Try.underlying31 rfl) ?_
        refine RL.val (x_moveI rfl) ?_
        refine RL.nil ?_
        refine Run.block ?_
        refine Run.loop (ι := Nat) (fun i ρ' w' => Holds ρ' [(1, .int .i64 (f)), (5, .slice (a_1) (((fineL keys).take 4).length) (c_2)), (6, .pointer (some ⟨s_8, 0, none⟩)), (8, .slice (a_35) (((numL f 0 ((fineL keys).take 4)).map (msgH 0 1 0)).length) (c_36)), (10, .slice (a_71) (((numL (f + 1000) (((fineL keys).take 4).length : Int) ((fineL keys).take 4)).map (msgH 0 1 0)).length) (c_72)), (73, .int .i64 (((((numL f 0 ((fineL keys).take 4)).map (msgH 0 1 0)).length : Nat) : Int))), (74, .int .i64 (((i : Nat) : Int)))] ∧ Ext w w' ∧ (OwnSl w' 9 (a_1) (c_2) (fineL keys)) ∧ (OwnSl w' 9 (a_16) (c_17) ((fineL keys).take 4)) ∧ (OwnSl w' 46 (a_35) (c_36) ((numL f 0 ((fineL keys).take 4)).map (msgH 0 1 0))) ∧ (OwnSl w' 46 (a_52) (c_53) (([] : List HMsg))) ∧ (SndAt w' s_8 F_73 0 (f + 1000) ((((fineL keys).take 4).length : Int) + (((fineL keys).take 4).length : Int)) [⟨0, 1, numL (f + 1000) (((fineL keys).take 4).length : Int) ((fineL keys).take 4)⟩]) ∧ (OwnSl w' 46 (a_71) (c_72) ((numL (f + 1000) (((fineL keys).take 4).length : Int) ((fineL keys).take 4)).map (msgH 0 1 0))) ∧ (i ≤ ((fineL keys).take 4).length)) (fun i => ((fineL keys).take 4).length - i) 0 ?_ ?_
        · refine ⟨⟨rfl, rfl, rfl, rfl, rfl, rfl, rfl, trivial⟩, K0, ho_4, ho_19, ho_39, ho_56, hS_77, ho_75, ?_⟩
          · omega
        clear ho_4 ho_19 ho_39 ho_56 hS_77 ho_75
        clear K0
        rintro i ρ_94 w_92 ⟨hH_93, K0, ho_4, ho_19, ho_39, ho_56, hS_77, ho_75, hi⟩ ih1
        obtain ⟨ρ₀, rfl⟩ := hH_93.ex
        clear hH_93
        refine Run.seq ?_
        refine Run.region ?_
        refine RL.val (x_ltI rfl rfl) ?_
        refine RL.nil ?_
        refine Run.seq ?_
        refine Run.cond rfl (fun hc75 => ?_) (fun hc75 => ?_)
        · try simp only [br] at hc75
          refine Run.skip ?_
          refine Run.seq ?_
          refine Run.block ?_
          refine Run.seq ?_
          refine Run.region ?_
          refine RL.val (x_moveI rfl) ?_
          refine RL.val (x_assignI rfl) ?_
          refine RL.nil ?_
          refine Run.seq ?_
          have hml : ((numL f 0 ((fineL keys).take 4)).map (msgH 0 1 0)).length = ((fineL keys).take 4).length := by rw [List.length_map, numL_len]
          have hml3 : ((numL (f + 1000) (((fineL keys).take 4).length : Int) ((fineL keys).take 4)).map (msgH 0 1 0)).length = ((fineL keys).take 4).length := by rw [List.length_map, numL_len]
          have hiL : i < ((fineL keys).take 4).length := by omega
          obtain ⟨y, hy, hx, hz⟩ := ag_at (f := f) hiL
          obtain ⟨b_97, o_98, x_101, hx_102, ha_99, hc_100⟩ := ho_39.sl.el (i := i) (by first | omega | (simp only [List.length_set]; omega))
          obtain rfl : (⟨10, 0, 1, (i : Int) + 1, y, 0⟩ : HMsg) = x_101 := Option.some.inj (hx.symm.trans hx_102)
          obtain ⟨b_103, o_104, x_107, hx_108, ha_105, hc_106⟩ := (ho_4.sl.take 4).el (i := i) (by first | omega | (simp only [List.length_set]; omega))
          obtain rfl : y = x_107 := Option.some.inj (hy.symm.trans hx_108)
          obtain ⟨b_109, o_110, x_113, hx_114, ha_111, hc_112⟩ := ho_75.sl.el (i := i) (by first | omega | (simp only [List.length_set]; omega))
          obtain rfl : (⟨10, 0, 1, (((fineL keys).take 4).length : Int) + 1 + (i : Int), y, 0⟩ : HMsg) = x_113 := Option.some.inj (hz.symm.trans hx_114)
          obtain ⟨b_115, o_116, x_119, hx_120, ha_117, hc_118⟩ := (ho_4.sl.take 4).el (i := i) (by first | omega | (simp only [List.length_set]; omega))
          obtain rfl : y = x_119 := Option.some.inj (hy.symm.trans hx_120)
          obtain ⟨b_121, o_122, x_125, hx_126, ha_123, hc_124⟩ := ho_39.sl.el (i := i) (by first | omega | (simp only [List.length_set]; omega))
          obtain rfl : (⟨10, 0, 1, (i : Int) + 1, y, 0⟩ : HMsg) = x_125 := Option.some.inj (hx.symm.trans hx_126)
          obtain ⟨b_127, o_128, x_131, hx_132, ha_129, hc_130⟩ := ho_75.sl.el (i := i) (by first | omega | (simp only [List.length_set]; omega))
          obtain rfl : (⟨10, 0, 1, (((fineL keys).take 4).length : Int) + 1 + (i : Int), y, 0⟩ : HMsg) = x_131 := Option.some.inj (hz.symm.trans hx_132)
          obtain ⟨b_133, o_134, x_137, hx_138, ha_135, hc_136⟩ := ho_39.sl.el (i := i) (by first | omega | (simp only [List.length_set]; omega))
          obtain rfl : (⟨10, 0, 1, (i : Int) + 1, y, 0⟩ : HMsg) = x_137 := Option.some.inj (hx.symm.trans hx_138)
          refine Run.drawT [] (m := 55) (by kernel_rfl) rfl ?_
          intro w_95 K_96
          replace ho_4 := ho_4.ext K_96
          replace ho_19 := ho_19.ext K_96
          replace ho_39 := ho_39.ext K_96
          replace ho_56 := ho_56.ext K_96
          replace hS_77 := hS_77.ext K_96
          replace ho_75 := ho_75.ext K_96
          replace hc_100 := hc_100.ext K_96
          replace hc_106 := hc_106.ext K_96
          replace hc_112 := hc_112.ext K_96
          replace hc_118 := hc_118.ext K_96
          replace hc_124 := hc_124.ext K_96
          replace hc_130 := hc_130.ext K_96
          replace hc_136 := hc_136.ext K_96
          replace K0 := K0.ext K_96
          refine ⟨fun w' => Cl w' b_97 (o_98 + i * 17) (cellsOf (⟨10, 0, 1, (i : Int) + 1, y, 0⟩ : HMsg)) ∧ Cl w' b_103 (o_104 + i * 1) (cellsOf y) ∧ Cl w' b_109 (o_110 + i * 17) (cellsOf (⟨10, 0, 1, (((fineL keys).take 4).length : Int) + 1 + (i : Int), y, 0⟩ : HMsg)) ∧ Cl w' b_115 (o_116 + i * 1) (cellsOf y) ∧ Cl w' b_121 (o_122 + i * 17) (cellsOf (⟨10, 0, 1, (i : Int) + 1, y, 0⟩ : HMsg)) ∧ Cl w' b_127 (o_128 + i * 17) (cellsOf (⟨10, 0, 1, (((fineL keys).take 4).length : Int) + 1 + (i : Int), y, 0⟩ : HMsg)) ∧ Cl w' b_133 (o_134 + i * 17) (cellsOf (⟨10, 0, 1, (i : Int) + 1, y, 0⟩ : HMsg)) ∧ True, ?_⟩
          refine RT.takeP (v := .slice (a_35) (((numL f 0 ((fineL keys).take 4)).map (msgH 0 1 0)).length) (c_36)) 0 rfl (by kernel_rfl) (.inr ⟨hc_100, hc_106, hc_112, hc_118, hc_124, hc_130, hc_136, trivial⟩) (fun _ => (x_moveSl rfl)) ?_
          refine RT.takeP (v := .int .i64 (((i : Nat) : Int))) 1 rfl (by kernel_rfl) (.inr ⟨hc_100, hc_106, hc_112, hc_118, hc_124, hc_130, hc_136, trivial⟩) (fun _ => (x_moveI rfl)) ?_
          refine RT.takeP (v := .pointer (some ⟨b_97, o_98 + i * 17, none⟩)) 2 rfl (by kernel_rfl) (.inr ⟨hc_100, hc_106, hc_112, hc_118, hc_124, hc_130, hc_136, trivial⟩) (fun _ => (x_idxN Try.underlying31 ty46 rfl rfl ha_99 (by first | omega | (simp only [List.length_set]; omega)))) ?_
          refine RT.takeP (v := .pointer (some ⟨b_97, o_98 + i * 17 + 4, none⟩)) 3 rfl (by kernel_rfl) (.inr ⟨hc_100, hc_106, hc_112, hc_118, hc_124, hc_130, hc_136, trivial⟩) (fun _ => (x_fld (o' := o_98 + i * 17 + 4) Try.underlying46 rfl ty9 rfl rfl rfl)) ?_
          refine RT.take (v := .string (((⟨10, 0, 1, (i : Int) + 1, y, 0⟩ : HMsg)).key)) 4 rfl (by kernel_rfl) ⟨hc_100, hc_106, hc_112, hc_118, hc_124, hc_130, hc_136, trivial⟩ (by rintro _ ⟨hc_100, hc_106, hc_112, hc_118, hc_124, hc_130, hc_136, -⟩; exact (x_ld ty9 rfl rfl (hc_100.field (i := 4) rfl))) ?_
          refine RT.takeP (v := .slice (a_1) (((fineL keys).take 4).length) (c_2)) 5 rfl (by kernel_rfl) (.inr ⟨hc_100, hc_106, hc_112, hc_118, hc_124, hc_130, hc_136, trivial⟩) (fun _ => (x_moveSl rfl)) ?_
          refine RT.takeP (v := .int .i64 (((i : Nat) : Int))) 6 rfl (by kernel_rfl) (.inr ⟨hc_100, hc_106, hc_112, hc_118, hc_124, hc_130, hc_136, trivial⟩) (fun _ => (x_moveI rfl)) ?_
          refine RT.takeP (v := .pointer (some ⟨b_103, o_104 + i * 1, none⟩)) 7 rfl (by kernel_rfl) (.inr ⟨hc_100, hc_106, hc_112, hc_118, hc_124, hc_130, hc_136, trivial⟩) (fun _ => (x_idxN Try.underlying22 ty9 rfl rfl ha_105 (by first | omega | (simp only [List.length_set]; omega)))) ?_
          refine RT.take (v := .string (y)) 8 rfl (by kernel_rfl) ⟨hc_100, hc_106, hc_112, hc_118, hc_124, hc_130, hc_136, trivial⟩ (by rintro _ ⟨hc_100, hc_106, hc_112, hc_118, hc_124, hc_130, hc_136, -⟩; exact (x_ldV (v := .string (y)) (y := y) ty9 rfl hc_106 rfl)) ?_
          refine RT.takeP (v := .bool (false)) 9 rfl (by kernel_rfl) (.inr ⟨hc_100, hc_106, hc_112, hc_118, hc_124, hc_130, hc_136, trivial⟩) (fun _ => (litF (x_neS rfl rfl) (by simp))) ?_
          refine RT.takeP (v := .bool (false)) 10 rfl (by kernel_rfl) (.inr ⟨hc_100, hc_106, hc_112, hc_118, hc_124, hc_130, hc_136, trivial⟩) (fun _ => (x_moveB rfl)) ?_
          refine RT.gtakeP (v := .slice (a_71) (((numL (f + 1000) (((fineL keys).take 4).length : Int) ((fineL keys).take 4)).map (msgH 0 1 0)).length) (c_72)) 11 rfl (by kernel_rfl) (.inr ⟨hc_100, hc_106, hc_112, hc_118, hc_124, hc_130, hc_136, trivial⟩) (wantedF1 rfl rfl rfl rfl) (fun hg _ => (x_moveSl rfl)) ?_
          refine RT.gtakeP (v := .int .i64 (((i : Nat) : Int))) 12 rfl (by kernel_rfl) (.inr ⟨hc_100, hc_106, hc_112, hc_118, hc_124, hc_130, hc_136, trivial⟩) (wantedF1 rfl rfl rfl rfl) (fun hg _ => (x_moveI rfl)) ?_
          refine RT.gtakeP (v := .pointer (some ⟨b_109, o_110 + i * 17, none⟩)) 13 rfl (by kernel_rfl) (.inr ⟨hc_100, hc_106, hc_112, hc_118, hc_124, hc_130, hc_136, trivial⟩) (wantedF1 rfl rfl rfl rfl) (fun hg _ => (x_idxN Try.underlying31 ty46 rfl rfl ha_111 (by first | omega | (simp only [List.length_set]; omega)))) ?_
          refine RT.gtakeP (v := .pointer (some ⟨b_109, o_110 + i * 17 + 4, none⟩)) 14 rfl (by kernel_rfl) (.inr ⟨hc_100, hc_106, hc_112, hc_118, hc_124, hc_130, hc_136, trivial⟩) (wantedF1 rfl rfl rfl rfl) (fun hg _ => (x_fld (o' := o_110 + i * 17 + 4) Try.underlying46 rfl ty9 rfl rfl rfl)) ?_
          refine RT.gtake (v := .string (((⟨10, 0, 1, (((fineL keys).take 4).length : Int) + 1 + (i : Int), y, 0⟩ : HMsg)).key)) 15 rfl (by kernel_rfl) ⟨hc_100, hc_106, hc_112, hc_118, hc_124, hc_130, hc_136, trivial⟩ (wantedF1 rfl rfl rfl rfl) (fun hg => by rintro _ ⟨hc_100, hc_106, hc_112, hc_118, hc_124, hc_130, hc_136, -⟩; exact (x_ld ty9 rfl rfl (hc_112.field (i := 4) rfl))) ?_
          refine RT.gtakeP (v := .slice (a_1) (((fineL keys).take 4).length) (c_2)) 16 rfl (by kernel_rfl) (.inr ⟨hc_100, hc_106, hc_112, hc_118, hc_124, hc_130, hc_136, trivial⟩) (wantedF1 rfl rfl rfl rfl) (fun hg _ => (x_moveSl rfl)) ?_
          refine RT.gtakeP (v := .int .i64 (((i : Nat) : Int))) 17 rfl (by kernel_rfl) (.inr ⟨hc_100, hc_106, hc_112, hc_118, hc_124, hc_130, hc_136, trivial⟩) (wantedF1 rfl rfl rfl rfl) (fun hg _ => (x_moveI rfl)) ?_
          refine RT.gtakeP (v := .pointer (some ⟨b_115, o_116 + i * 1, none⟩)) 18 rfl (by kernel_rfl) (.inr ⟨hc_100, hc_106, hc_112, hc_118, hc_124, hc_130, hc_136, trivial⟩) (wantedF1 rfl rfl rfl rfl) (fun hg _ => (x_idxN Try.underlying22 ty9 rfl rfl ha_117 (by first | omega | (simp only [List.length_set]; omega)))) ?_
          refine RT.gtake (v := .string (y)) 19 rfl (by kernel_rfl) ⟨hc_100, hc_106, hc_112, hc_118, hc_124, hc_130, hc_136, trivial⟩ (wantedF1 rfl rfl rfl rfl) (fun hg => by rintro _ ⟨hc_100, hc_106, hc_112, hc_118, hc_124, hc_130, hc_136, -⟩; exact (x_ldV (v := .string (y)) (y := y) ty9 rfl hc_118 rfl)) ?_
          refine RT.gtakeP (v := .bool (false)) 20 rfl (by kernel_rfl) (.inr ⟨hc_100, hc_106, hc_112, hc_118, hc_124, hc_130, hc_136, trivial⟩) (wantedF1 rfl rfl rfl rfl) (fun hg _ => (litF (x_neS rfl rfl) (by simp))) ?_
          refine RT.takeP (v := .bool (false)) 21 rfl (by kernel_rfl) (.inr ⟨hc_100, hc_106, hc_112, hc_118, hc_124, hc_130, hc_136, trivial⟩) (fun _ => (x_orF rfl rfl rfl)) ?_
          refine RT.takeP (v := .bool (false)) 22 rfl (by kernel_rfl) (.inr ⟨hc_100, hc_106, hc_112, hc_118, hc_124, hc_130, hc_136, trivial⟩) (fun _ => (x_moveB rfl)) ?_
          refine RT.gtakeP (v := .slice (a_35) (((numL f 0 ((fineL keys).take 4)).map (msgH 0 1 0)).length) (c_36)) 23 rfl (by kernel_rfl) (.inr ⟨hc_100, hc_106, hc_112, hc_118, hc_124, hc_130, hc_136, trivial⟩) (wantedF1 rfl rfl rfl rfl) (fun hg _ => (x_moveSl rfl)) ?_
          refine RT.gtakeP (v := .int .i64 (((i : Nat) : Int))) 24 rfl (by kernel_rfl) (.inr ⟨hc_100, hc_106, hc_112, hc_118, hc_124, hc_130, hc_136, trivial⟩) (wantedF1 rfl rfl rfl rfl) (fun hg _ => (x_moveI rfl)) ?_
          refine RT.gtakeP (v := .pointer (some ⟨b_121, o_122 + i * 17, none⟩)) 25 rfl (by kernel_rfl) (.inr ⟨hc_100, hc_106, hc_112, hc_118, hc_124, hc_130, hc_136, trivial⟩) (wantedF1 rfl rfl rfl rfl) (fun hg _ => (x_idxN Try.underlying31 ty46 rfl rfl ha_123 (by first | omega | (simp only [List.length_set]; omega)))) ?_
          refine RT.gtakeP (v := .pointer (some ⟨b_121, o_122 + i * 17 + 3, none⟩)) 26 rfl (by kernel_rfl) (.inr ⟨hc_100, hc_106, hc_112, hc_118, hc_124, hc_130, hc_136, trivial⟩) (wantedF1 rfl rfl rfl rfl) (fun hg _ => (x_fld (o' := o_122 + i * 17 + 3) Try.underlying46 rfl ty3 rfl rfl rfl)) ?_
          refine RT.gtake (v := .int .i64 (((⟨10, 0, 1, (i : Int) + 1, y, 0⟩ : HMsg)).req)) 27 rfl (by kernel_rfl) ⟨hc_100, hc_106, hc_112, hc_118, hc_124, hc_130, hc_136, trivial⟩ (wantedF1 rfl rfl rfl rfl) (fun hg => by rintro _ ⟨hc_100, hc_106, hc_112, hc_118, hc_124, hc_130, hc_136, -⟩; exact (x_ld ty3 rfl rfl (hc_124.field (i := 3) rfl))) ?_
          refine RT.gtakeP (v := .slice (a_71) (((numL (f + 1000) (((fineL keys).take 4).length : Int) ((fineL keys).take 4)).map (msgH 0 1 0)).length) (c_72)) 28 rfl (by kernel_rfl) (.inr ⟨hc_100, hc_106, hc_112, hc_118, hc_124, hc_130, hc_136, trivial⟩) (wantedF1 rfl rfl rfl rfl) (fun hg _ => (x_moveSl rfl)) ?_
          refine RT.gtakeP (v := .int .i64 (((i : Nat) : Int))) 29 rfl (by kernel_rfl) (.inr ⟨hc_100, hc_106, hc_112, hc_118, hc_124, hc_130, hc_136, trivial⟩) (wantedF1 rfl rfl rfl rfl) (fun hg _ => (x_moveI rfl)) ?_
          refine RT.gtakeP (v := .pointer (some ⟨b_127, o_128 + i * 17, none⟩)) 30 rfl (by kernel_rfl) (.inr ⟨hc_100, hc_106, hc_112, hc_118, hc_124, hc_130, hc_136, trivial⟩) (wantedF1 rfl rfl rfl rfl) (fun hg _ => (x_idxN Try.underlying31 ty46 rfl rfl ha_129 (by first | omega | (simp only [List.length_set]; omega)))) ?_
          refine RT.gtakeP (v := .pointer (some ⟨b_127, o_128 + i * 17 + 3, none⟩)) 31 rfl (by kernel_rfl) (.inr ⟨hc_100, hc_106, hc_112, hc_118, hc_124, hc_130, hc_136, trivial⟩) (wantedF1 rfl rfl rfl rfl) (fun hg _ => (x_fld (o' := o_128 + i * 17 + 3) Try.underlying46 rfl ty3 rfl rfl rfl)) ?_
          refine RT.gtake (v := .int .i64 (((⟨10, 0, 1, (((fineL keys).take 4).length : Int) + 1 + (i : Int), y, 0⟩ : HMsg)).req)) 32 rfl (by kernel_rfl) ⟨hc_100, hc_106, hc_112, hc_118, hc_124, hc_130, hc_136, trivial⟩ (wantedF1 rfl rfl rfl rfl) (fun hg => by rintro _ ⟨hc_100, hc_106, hc_112, hc_118, hc_124, hc_130, hc_136, -⟩; exact (x_ld ty3 rfl rfl (hc_130.field (i := 3) rfl))) ?_
          refine RT.gtakeP (v := .bool (false)) 33 rfl (by kernel_rfl) (.inr ⟨hc_100, hc_106, hc_112, hc_118, hc_124, hc_130, hc_136, trivial⟩) (wantedF1 rfl rfl rfl rfl) (fun hg _ => (litF (x_eqI rfl rfl) (by simp only [beq_eq_false_iff_ne]; omega))) ?_
          refine RT.takeP (v := .bool (false)) 34 rfl (by kernel_rfl) (.inr ⟨hc_100, hc_106, hc_112, hc_118, hc_124, hc_130, hc_136, trivial⟩) (fun _ => (x_orF rfl rfl rfl)) ?_
          refine RT.takeP (v := .bool (false)) 35 rfl (by kernel_rfl) (.inr ⟨hc_100, hc_106, hc_112, hc_118, hc_124, hc_130, hc_136, trivial⟩) (fun _ => (x_moveB rfl)) ?_
          refine RT.gtakeP (v := .pointer (some ⟨s_8, 0, none⟩)) 36 rfl (by kernel_rfl) (.inr ⟨hc_100, hc_106, hc_112, hc_118, hc_124, hc_130, hc_136, trivial⟩) (wantedF1 rfl rfl rfl rfl) (fun hg _ => (x_moveP rfl)) ?_
          refine RT.gtakeP (v := .slice (a_35) (((numL f 0 ((fineL keys).take 4)).map (msgH 0 1 0)).length) (c_36)) 37 rfl (by kernel_rfl) (.inr ⟨hc_100, hc_106, hc_112, hc_118, hc_124, hc_130, hc_136, trivial⟩) (wantedF1 rfl rfl rfl rfl) (fun hg _ => (x_moveSl rfl)) ?_
          refine RT.gtakeP (v := .int .i64 (((i : Nat) : Int))) 38 rfl (by kernel_rfl) (.inr ⟨hc_100, hc_106, hc_112, hc_118, hc_124, hc_130, hc_136, trivial⟩) (wantedF1 rfl rfl rfl rfl) (fun hg _ => (x_moveI rfl)) ?_
          refine RT.gtakeP (v := .pointer (some ⟨b_133, o_134 + i * 17, none⟩)) 39 rfl (by kernel_rfl) (.inr ⟨hc_100, hc_106, hc_112, hc_118, hc_124, hc_130, hc_136, trivial⟩) (wantedF1 rfl rfl rfl rfl) (fun hg _ => (x_idxN Try.underlying31 ty46 rfl rfl ha_135 (by first | omega | (simp only [List.length_set]; omega)))) ?_
          refine RT.gtake (v := .agg #[.int .i64 (((⟨10, 0, 1, (i : Int) + 1, y, 0⟩ : HMsg)).kind), .int .i64 (((⟨10, 0, 1, (i : Int) + 1, y, 0⟩ : HMsg)).frm), .int .i64 (((⟨10, 0, 1, (i : Int) + 1, y, 0⟩ : HMsg)).to), .int .i64 (((⟨10, 0, 1, (i : Int) + 1, y, 0⟩ : HMsg)).req), .string (((⟨10, 0, 1, (i : Int) + 1, y, 0⟩ : HMsg)).key), .slice (none) (0) (0), .slice (none) (0) (0), .slice (none) (0) (0), .int .i64 (0), .int .i64 (((⟨10, 0, 1, (i : Int) + 1, y, 0⟩ : HMsg)).part), .int .i64 (0), .int .i64 (0), .int .i64 (0), .int .i64 (0), .slice (none) (0) (0), .slice (none) (0) (0), .slice (none) (0) (0)]) 40 rfl (by kernel_rfl) ⟨hc_100, hc_106, hc_112, hc_118, hc_124, hc_130, hc_136, trivial⟩ (wantedF1 rfl rfl rfl rfl) (fun hg => by rintro _ ⟨hc_100, hc_106, hc_112, hc_118, hc_124, hc_130, hc_136, -⟩; exact (x_ldV (v := .agg #[.int .i64 (((⟨10, 0, 1, (i : Int) + 1, y, 0⟩ : HMsg)).kind), .int .i64 (((⟨10, 0, 1, (i : Int) + 1, y, 0⟩ : HMsg)).frm), .int .i64 (((⟨10, 0, 1, (i : Int) + 1, y, 0⟩ : HMsg)).to), .int .i64 (((⟨10, 0, 1, (i : Int) + 1, y, 0⟩ : HMsg)).req), .string (((⟨10, 0, 1, (i : Int) + 1, y, 0⟩ : HMsg)).key), .slice (none) (0) (0), .slice (none) (0) (0), .slice (none) (0) (0), .int .i64 (0), .int .i64 (((⟨10, 0, 1, (i : Int) + 1, y, 0⟩ : HMsg)).part), .int .i64 (0), .int .i64 (0), .int .i64 (0), .int .i64 (0), .slice (none) (0) (0), .slice (none) (0) (0), .slice (none) (0) (0)]) (y := (⟨10, 0, 1, (i : Int) + 1, y, 0⟩ : HMsg)) ty46 rfl hc_136 rfl)) ?_
          refine RT.gtakeP (v := .int .i64 (f)) 42 rfl (by kernel_rfl) (.inr ⟨hc_100, hc_106, hc_112, hc_118, hc_124, hc_130, hc_136, trivial⟩) (wantedF1 rfl rfl rfl rfl) (fun hg _ => (x_moveI rfl)) ?_
          refine RT.gtakeP (v := .int .i64 (f + 1000)) 43 rfl (by kernel_rfl) (.inr ⟨hc_100, hc_106, hc_112, hc_118, hc_124, hc_130, hc_136, trivial⟩) (wantedF1 rfl rfl rfl rfl) (fun hg _ => (x_add rfl rfl (by omega) (by omega))) ?_
          refine RT.gst 41 rfl (by kernel_rfl) (wantedF1 rfl rfl rfl rfl) <| St1.call (vals := [.agg #[.int .i64 (((⟨10, 0, 1, (i : Int) + 1, y, 0⟩ : HMsg)).kind), .int .i64 (((⟨10, 0, 1, (i : Int) + 1, y, 0⟩ : HMsg)).frm), .int .i64 (((⟨10, 0, 1, (i : Int) + 1, y, 0⟩ : HMsg)).to), .int .i64 (((⟨10, 0, 1, (i : Int) + 1, y, 0⟩ : HMsg)).req), .string (((⟨10, 0, 1, (i : Int) + 1, y, 0⟩ : HMsg)).key), .slice (none) (0) (0), .slice (none) (0) (0), .slice (none) (0) (0), .int .i64 (0), .int .i64 (((⟨10, 0, 1, (i : Int) + 1, y, 0⟩ : HMsg)).part), .int .i64 (0), .int .i64 (0), .int .i64 (0), .int .i64 (0), .slice (none) (0) (0), .slice (none) (0) (0), .slice (none) (0) (0)]]) en16 rfl (handed_ (⟨10, 0, 1, (i : Int) + 1, y, 0⟩ : HMsg) _) ?_
          rintro _ w_139 ⟨rfl, K_140⟩
          replace ho_4 := ho_4.ext K_140
          replace ho_19 := ho_19.ext K_140
          replace ho_39 := ho_39.ext K_140
          replace ho_56 := ho_56.ext K_140
          replace hS_77 := hS_77.ext K_140
          replace ho_75 := ho_75.ext K_140
          replace hc_100 := hc_100.ext K_140
          replace hc_106 := hc_106.ext K_140
          replace hc_112 := hc_112.ext K_140
          replace hc_118 := hc_118.ext K_140
          replace hc_124 := hc_124.ext K_140
          replace hc_130 := hc_130.ext K_140
          replace hc_136 := hc_136.ext K_140
          replace K0 := K0.ext K_140
          refine ⟨.inr ⟨hc_100, hc_106, hc_112, hc_118, hc_124, hc_130, hc_136, trivial⟩, ?_⟩
          refine RT.gst 44 rfl (by kernel_rfl) (wantedF1 rfl rfl rfl rfl) <| St1.call (vals := [.pointer (some ⟨s_8, 0, none⟩), .agg #[.int .i64 (((handedM (⟨10, 0, 1, (i : Int) + 1, y, 0⟩ : HMsg))).kind), .int .i64 (((handedM (⟨10, 0, 1, (i : Int) + 1, y, 0⟩ : HMsg))).frm), .int .i64 (((handedM (⟨10, 0, 1, (i : Int) + 1, y, 0⟩ : HMsg))).to), .int .i64 (((handedM (⟨10, 0, 1, (i : Int) + 1, y, 0⟩ : HMsg))).req), .string (((handedM (⟨10, 0, 1, (i : Int) + 1, y, 0⟩ : HMsg))).key), .slice (none) (0) (0), .slice (none) (0) (0), .slice (none) (0) (0), .int .i64 (0), .int .i64 (((handedM (⟨10, 0, 1, (i : Int) + 1, y, 0⟩ : HMsg))).part), .int .i64 (0), .int .i64 (0), .int .i64 (0), .int .i64 (0), .slice (none) (0) (0), .slice (none) (0) (0), .slice (none) (0) (0)], .int .i64 (f + 1000)]) en15 rfl (onQ hS_77 _ _ (by show 1 ≤ 1000; omega) (Int.le_refl _) (ag_no hiL)) ?_
          rintro _ w_141 ⟨rfl, K_142⟩
          replace ho_4 := ho_4.ext K_142
          replace ho_19 := ho_19.ext K_142
          replace ho_39 := ho_39.ext K_142
          replace ho_56 := ho_56.ext K_142
          replace hS_77 := hS_77.ext K_142
          replace ho_75 := ho_75.ext K_142
          replace hc_100 := hc_100.ext K_142
          replace hc_106 := hc_106.ext K_142
          replace hc_112 := hc_112.ext K_142
          replace hc_118 := hc_118.ext K_142
          replace hc_124 := hc_124.ext K_142
          replace hc_130 := hc_130.ext K_142
          replace hc_136 := hc_136.ext K_142
          replace K0 := K0.ext K_142
          refine ⟨.inr ⟨hc_100, hc_106, hc_112, hc_118, hc_124, hc_130, hc_136, trivial⟩, ?_⟩
          refine RT.gtakeP (v := .int .i64 (0)) 45 rfl (by kernel_rfl) (.inr ⟨hc_100, hc_106, hc_112, hc_118, hc_124, hc_130, hc_136, trivial⟩) (wantedF1 rfl rfl rfl rfl) (fun hg _ => (litI (c := 0) (x_lenSl Try.underlying31 rfl) rfl)) ?_
          refine RT.gtakeP (v := .bool (false)) 46 rfl (by kernel_rfl) (.inr ⟨hc_100, hc_106, hc_112, hc_118, hc_124, hc_130, hc_136, trivial⟩) (wantedF1 rfl rfl rfl rfl) (fun hg _ => (litF (x_neI rfl rfl) (by decide))) ?_
          refine RT.takeP (v := .bool (false)) 47 rfl (by kernel_rfl) (.inr ⟨hc_100, hc_106, hc_112, hc_118, hc_124, hc_130, hc_136, trivial⟩) (fun _ => (x_orF rfl rfl rfl)) ?_
          refine RT.takeP (v := .bool (false)) 48 rfl (by kernel_rfl) (.inr ⟨hc_100, hc_106, hc_112, hc_118, hc_124, hc_130, hc_136, trivial⟩) (fun _ => (x_moveB rfl)) ?_
          refine RT.gtakeP (v := .pointer (some ⟨s_8, 0, none⟩)) 49 rfl (by kernel_rfl) (.inr ⟨hc_100, hc_106, hc_112, hc_118, hc_124, hc_130, hc_136, trivial⟩) (wantedF1 rfl rfl rfl rfl) (fun hg _ => (x_moveP rfl)) ?_
          refine RT.gtakeP (v := .slice (a_1) (((fineL keys).take 4).length) (c_2)) 51 rfl (by kernel_rfl) (.inr ⟨hc_100, hc_106, hc_112, hc_118, hc_124, hc_130, hc_136, trivial⟩) (wantedF1 rfl rfl rfl rfl) (fun hg _ => (x_moveSl rfl)) ?_
          refine RT.gtakeP (v := .int .i64 (((((fineL keys).take 4).length : Nat) : Int))) 52 rfl (by kernel_rfl) (.inr ⟨hc_100, hc_106, hc_112, hc_118, hc_124, hc_130, hc_136, trivial⟩) (wantedF1 rfl rfl rfl rfl) (fun hg _ => (x_lenSl Try.underlying22 rfl)) ?_
          refine RT.gst 50 rfl (by kernel_rfl) (wantedF1 rfl rfl rfl rfl) <| St1.call (vals := [.pointer (some ⟨s_8, 0, none⟩), .int .i64 (0), .int .i64 (1)]) en17 rfl (ag_left hS_77) ?_
          rintro _ w_143 ⟨rfl, K_144⟩
          replace ho_4 := ho_4.ext K_144
          replace ho_19 := ho_19.ext K_144
          replace ho_39 := ho_39.ext K_144
          replace ho_56 := ho_56.ext K_144
          replace hS_77 := hS_77.ext K_144
          replace ho_75 := ho_75.ext K_144
          replace hc_100 := hc_100.ext K_144
          replace hc_106 := hc_106.ext K_144
          replace hc_112 := hc_112.ext K_144
          replace hc_118 := hc_118.ext K_144
          replace hc_124 := hc_124.ext K_144
          replace hc_130 := hc_130.ext K_144
          replace hc_136 := hc_136.ext K_144
          replace K0 := K0.ext K_144
          refine ⟨.inr ⟨hc_100, hc_106, hc_112, hc_118, hc_124, hc_130, hc_136, trivial⟩, ?_⟩
          refine RT.gtakeP (v := .bool (false)) 53 rfl (by kernel_rfl) (.inr ⟨hc_100, hc_106, hc_112, hc_118, hc_124, hc_130, hc_136, trivial⟩) (wantedF1 rfl rfl rfl rfl) (fun hg _ => (litF (x_neI rfl rfl) (by simp))) ?_
          refine RT.takeP (v := .bool (false)) 54 rfl (by kernel_rfl) (.inr ⟨hc_100, hc_106, hc_112, hc_118, hc_124, hc_130, hc_136, trivial⟩) (fun _ => (x_orF rfl rfl rfl)) ?_
          refine RT.done (by kernel_rfl) ?_
          refine Run.condF rfl ?_
          refine Run.skip ?_
          refine Run.inBlock ?_
          refine Run.region ?_
          refine RL.val (litI (c := ((i + 1 : Nat) : Int)) (x_add rfl rfl (by omega) (by omega)) rfl) ?_
          refine RL.val (x_moveI rfl) ?_
          refine RL.nil ?_
          refine ih1 (i + 1) _ _ ?_ (by omega)
          refine ⟨⟨rfl, rfl, rfl, rfl, rfl, rfl, rfl, trivial⟩, K0, ho_4, ho_19, ho_39, ho_56, hS_77, ho_75, ?_⟩
          · omega
        · try simp only [br] at hc75
          refine Run.exit rfl ?_
          refine Run.seq ?_
          refine Run.region ?_
          refine RL.val (x_assignB rfl) ?_
          refine RL.nil ?_
          refine Run.ret1 (v := .bool (true)) Try.func3 rfl rfl ?_
          exact ⟨_, rfl, rfl, K0⟩
  · try simp only [br] at hc16
    refine Run.skip ?_
    refine Run.seq ?_
    have hRL : Rising (fineL keys) := fine_rises keys
    have hKL : (fineL keys).any (fun k => !isKey k) = false := fine_any keys
    have hL4 : (fineL keys).length ≤ 4 := by omega
    refine Run.region ?_
    refine RL.st rfl <| St1.call (vals := [.int .i64 (0)]) en10 rfl (newD 0 _) ?_
    rintro _ w_147 (⟨hnr, rfl, K_150⟩ | ⟨hrm, s_145, F_146, rfl, hS_148, hg_149, K_150⟩)
    · exact absurd (by decide) hnr
    · have pr_151 : ∀ q_, F_146 q_ → ¬ own a_1 q_ := apartNew hg_149 ho_4.own_lt
      have pg_152 : ∀ q_, F_146 q_ → w.heap.size ≤ q_ := fun q_ h => Nat.le_trans K0.size (hg_149 q_ h)
      clear hg_149
      replace ho_4 := ho_4.ext K_150
      replace K0 := K0.ext K_150
      refine RL.val (x_moveT rfl) ?_
      refine RL.val (x_extract rfl rfl) ?_
      refine RL.val (x_extract rfl rfl) ?_
      refine RL.val (x_assignP rfl) ?_
      refine RL.val (x_assignI rfl) ?_
      refine RL.nil ?_
      refine Run.seq ?_
      refine Run.seq ?_
      refine Run.region ?_
      refine RL.val (x_moveI rfl) ?_
      refine RL.val (litF (x_neI rfl rfl) (by decide)) ?_
      refine RL.val (x_moveB rfl) ?_
      refine RL.gst (wantedF1 rfl rfl rfl rfl) <| St1.val (x_moveP rfl) ?_
      refine RL.gst (wantedF1 rfl rfl rfl rfl) <| St1.val (litF (x_ptrNil Try.underlying24 rfl rfl) rfl) ?_
      refine RL.val (x_orF rfl rfl rfl) ?_
      refine RL.val (x_moveB rfl) ?_
      refine RL.gst (wantedF1 rfl rfl rfl rfl) <| St1.val (x_moveP rfl) ?_
      refine RL.gst (wantedF1 rfl rfl rfl rfl) <| St1.val (x_moveSl rfl) ?_
      refine RL.gst (wantedF1 rfl rfl rfl rfl) <| St1.call (vals := [.slice (a_1) ((fineL keys).length) (c_2)]) en12 rfl (clone_str _ _ _ _ ho_4.sl (by omega)) ?_
      rintro _ w_155 ⟨a_153, c_154, rfl, ho_156, hg_157, K_158⟩
      have pr_159 : ∀ q_, own a_153 q_ → ¬ own a_1 q_ := apartNew hg_157 ho_4.own_lt
      have pr_160 : ∀ q_, own a_153 q_ → ¬ F_146 q_ := apartNew hg_157 hS_148.own_lt
      have pg_161 : ∀ q_, own a_153 q_ → w.heap.size ≤ q_ := fun q_ h => Nat.le_trans K0.size (hg_157 q_ h)
      clear hg_157
      replace ho_4 := ho_4.ext K_158
      replace hS_148 := hS_148.ext K_158
      replace K0 := K0.ext K_158
      refine RL.gst (wantedF1 rfl rfl rfl rfl) <| St1.call (vals := [.pointer (some ⟨s_145, 0, none⟩), .int .i64 (0), .int .i64 (1), .slice (a_153) ((fineL keys).length) (c_154)]) en11 rfl (ag_begin (L := (fineL keys)) hS_148 hRL hKL _ _ ho_156.sl (fun x_ hx_ => pr_160 _ ⟨x_, hx_, rfl⟩) (by omega)) ?_
      rintro _ w_163 ⟨F_162, rfl, hS_164, hm_165, K_166⟩
      have pr_167 : ∀ q_, F_162 q_ → ¬ own a_1 q_ := hm_165.apart pr_151 ho_4.own_lt
      have pr_168 : ∀ q_, F_162 q_ → ¬ own a_153 q_ := hm_165.apart (fun q_ h1 h2 => pr_160 q_ h2 h1) ho_156.own_lt
      have pg_169 : ∀ q_, F_162 q_ → w.heap.size ≤ q_ := hm_165.ge pg_152 K0.size
      replace ho_4 := ho_4.keepO K_166 (fun q_ h1 h2 => pr_151 q_ h2 h1)
      replace ho_156 := ho_156.keepO K_166 pr_160
      replace K0 := K0.new K_166 pg_152
      clear hm_165
      refine RL.gst (wantedF1 rfl rfl rfl rfl) <| St1.val (litF (x_neI rfl rfl) (by decide)) ?_
      refine RL.val (x_orF rfl rfl rfl) ?_
      refine RL.val (x_moveB rfl) ?_
      refine RL.gst (wantedF1 rfl rfl rfl rfl) <| St1.call (vals := []) en13 rfl (awake_ _) ?_
      rintro _ w_170 ⟨rfl, K_171⟩
      replace ho_4 := ho_4.ext K_171
      replace ho_156 := ho_156.ext K_171
      replace hS_164 := hS_164.ext K_171
      replace K0 := K0.ext K_171
      refine RL.gst (wantedF1 rfl rfl rfl rfl) <| St1.val (x_not rfl) ?_
      refine RL.val (x_orF rfl rfl rfl) ?_
      refine RL.nil ?_
      refine Run.condF rfl ?_
      refine Run.skip ?_
      refine Run.seq ?_
      obtain ⟨f, hf, hf0, hf1⟩ := few_d 1099511627776 from_ (by decide) (by decide)
      have hfr : 0 ≤ f ∧ f ≤ 1099511627775 := by omega
      refine Run.region ?_
      refine RL.val (x_moveI rfl) ?_
      refine RL.val (x_convI rfl ⟨_, Try.underlying3⟩ Try.underlying30) ?_
      refine RL.val (x_rem rfl rfl (by decide)) ?_
      refine RL.val (litI (c := f) (x_convI rfl ⟨_, Try.underlying30⟩ Try.underlying3) hf) ?_
      refine RL.val (x_assignI rfl) ?_
      refine RL.nil ?_
      refine Run.seq ?_
      refine Run.region ?_
      refine RL.val (x_moveP rfl) ?_
      refine RL.val (x_moveI rfl) ?_
      refine RL.st rfl <| St1.call (vals := [.pointer (some ⟨s_145, 0, none⟩), .int .i64 (f)]) en14 rfl (ag_tick1 (L := (fineL keys)) hS_164 hL4 hfr) ?_
      rintro _ w_175 ⟨a_172, c_173, F_174, rfl, ho_176, hg_177, hS_178, hm_179, hap_180, K_181⟩
      have pr_182 : ∀ q_, own a_172 q_ → ¬ own a_1 q_ := apartNew hg_177 ho_4.own_lt
      have pr_183 : ∀ q_, own a_172 q_ → ¬ own a_153 q_ := apartNew hg_177 ho_156.own_lt
      have pr_184 : ∀ q_, own a_172 q_ → ¬ F_162 q_ := apartNew hg_177 hS_164.own_lt
      have pg_185 : ∀ q_, own a_172 q_ → w.heap.size ≤ q_ := fun q_ h => Nat.le_trans K0.size (hg_177 q_ h)
      clear hg_177
      have pr_186 : ∀ q_, F_174 q_ → ¬ own a_1 q_ := hm_179.apart pr_167 ho_4.own_lt
      have pr_187 : ∀ q_, F_174 q_ → ¬ own a_153 q_ := hm_179.apart pr_168 ho_156.own_lt
      have pg_188 : ∀ q_, F_174 q_ → w.heap.size ≤ q_ := hm_179.ge pg_169 K0.size
      replace ho_4 := ho_4.keepO K_181 (fun q_ h1 h2 => pr_167 q_ h2 h1)
      replace ho_156 := ho_156.keepO K_181 (fun q_ h1 h2 => pr_168 q_ h2 h1)
      replace K0 := K0.new K_181 pg_169
      clear hm_179
      refine RL.val (x_moveP rfl) ?_
      refine RL.val (x_moveI rfl) ?_
      refine RL.val (x_add rfl rfl (by omega) (by omega)) ?_
      refine RL.st rfl <| St1.call (vals := [.pointer (some ⟨s_145, 0, none⟩), .int .i64 (f + 999)]) en14 rfl (ag_tick2 (L := (fineL keys)) hS_178 hL4 hfr) ?_
      rintro _ w_192 ⟨a_189, c_190, F_191, rfl, ho_193, hg_194, hS_195, hm_196, hap_197, K_198⟩
      have pr_199 : ∀ q_, own a_189 q_ → ¬ own a_1 q_ := apartNew hg_194 ho_4.own_lt
      have pr_200 : ∀ q_, own a_189 q_ → ¬ own a_153 q_ := apartNew hg_194 ho_156.own_lt
      have pr_201 : ∀ q_, own a_189 q_ → ¬ F_174 q_ := apartNew hg_194 hS_178.own_lt
      have pr_202 : ∀ q_, own a_189 q_ → ¬ own a_172 q_ := apartNew hg_194 ho_176.own_lt
      have pg_203 : ∀ q_, own a_189 q_ → w.heap.size ≤ q_ := fun q_ h => Nat.le_trans K0.size (hg_194 q_ h)
      clear hg_194
      have pr_204 : ∀ q_, F_191 q_ → ¬ own a_1 q_ := hm_196.apart pr_186 ho_4.own_lt
      have pr_205 : ∀ q_, F_191 q_ → ¬ own a_153 q_ := hm_196.apart pr_187 ho_156.own_lt
      have pr_206 : ∀ q_, F_191 q_ → ¬ own a_172 q_ := hm_196.apart (fun q_ h1 h2 => hap_180 q_ h2 h1) ho_176.own_lt
      have pg_207 : ∀ q_, F_191 q_ → w.heap.size ≤ q_ := hm_196.ge pg_188 K0.size
      replace ho_4 := ho_4.keepO K_198 (fun q_ h1 h2 => pr_186 q_ h2 h1)
      replace ho_156 := ho_156.keepO K_198 (fun q_ h1 h2 => pr_187 q_ h2 h1)
      replace ho_176 := ho_176.keepO K_198 hap_180
      replace K0 := K0.new K_198 pg_188
      clear hm_196
      refine RL.val (x_moveP rfl) ?_
      refine RL.val (x_moveI rfl) ?_
      refine RL.val (x_add rfl rfl (by omega) (by omega)) ?_
      refine RL.st rfl <| St1.call (vals := [.pointer (some ⟨s_145, 0, none⟩), .int .i64 (f + 1000)]) en14 rfl (ag_tick3 (L := (fineL keys)) hS_195 hL4 hfr) ?_
      rintro _ w_211 ⟨a_208, c_209, F_210, rfl, ho_212, hg_213, hS_214, hm_215, hap_216, K_217⟩
      have pr_218 : ∀ q_, own a_208 q_ → ¬ own a_1 q_ := apartNew hg_213 ho_4.own_lt
      have pr_219 : ∀ q_, own a_208 q_ → ¬ own a_153 q_ := apartNew hg_213 ho_156.own_lt
      have pr_220 : ∀ q_, own a_208 q_ → ¬ own a_172 q_ := apartNew hg_213 ho_176.own_lt
      have pr_221 : ∀ q_, own a_208 q_ → ¬ F_191 q_ := apartNew hg_213 hS_195.own_lt
      have pr_222 : ∀ q_, own a_208 q_ → ¬ own a_189 q_ := apartNew hg_213 ho_193.own_lt
      have pg_223 : ∀ q_, own a_208 q_ → w.heap.size ≤ q_ := fun q_ h => Nat.le_trans K0.size (hg_213 q_ h)
      clear hg_213
      have pr_224 : ∀ q_, F_210 q_ → ¬ own a_1 q_ := hm_215.apart pr_204 ho_4.own_lt
      have pr_225 : ∀ q_, F_210 q_ → ¬ own a_153 q_ := hm_215.apart pr_205 ho_156.own_lt
      have pr_226 : ∀ q_, F_210 q_ → ¬ own a_172 q_ := hm_215.apart pr_206 ho_176.own_lt
      have pr_227 : ∀ q_, F_210 q_ → ¬ own a_189 q_ := hm_215.apart (fun q_ h1 h2 => hap_197 q_ h2 h1) ho_193.own_lt
      have pg_228 : ∀ q_, F_210 q_ → w.heap.size ≤ q_ := hm_215.ge pg_207 K0.size
      replace ho_4 := ho_4.keepO K_217 (fun q_ h1 h2 => pr_204 q_ h2 h1)
      replace ho_156 := ho_156.keepO K_217 (fun q_ h1 h2 => pr_205 q_ h2 h1)
      replace ho_176 := ho_176.keepO K_217 (fun q_ h1 h2 => pr_206 q_ h2 h1)
      replace ho_193 := ho_193.keepO K_217 hap_197
      replace K0 := K0.new K_217 pg_207
      clear hm_215
      refine RL.val (x_assignSl rfl) ?_
      refine RL.val (x_assignSl rfl) ?_
      refine RL.val (x_assignSl rfl) ?_
      refine RL.nil ?_
      refine Run.seq ?_
      refine Run.seq ?_
      have hm1 : ((numL f 0 (fineL keys)).map (msgH 0 1 0)).length = (fineL keys).length := by rw [List.length_map, numL_len]
      have hm3 : ((numL (f + 1000) ((fineL keys).length : Int) (fineL keys)).map (msgH 0 1 0)).length = (fineL keys).length := by rw [List.length_map, numL_len]
      have hm2 : ([] : List HMsg).length = 0 := rfl
      refine Run.region ?_
      refine RL.val (x_moveSl rfl) ?_
      refine RL.val (x_lenSl Try.underlying31 rfl) ?_
      refine RL.val (x_moveSl rfl) ?_
      refine RL.val (x_lenSl Try.underlying22 rfl) ?_
      refine RL.val (x_neI rfl rfl) ?_
      refine RL.val (x_moveB rfl) ?_
      refine RL.gval (wantedF rfl rfl rfl rfl) (fun hg => (x_moveSl rfl)) ?_
      refine RL.gval (wantedF rfl rfl rfl rfl) (fun hg => (x_lenSl Try.underlying31 (gvr hg))) ?_
      refine RL.gval (wantedF rfl rfl rfl rfl) (fun hg => (x_neI (gvr hg) rfl)) ?_
      refine RL.val (x_or rfl rfl rfl) ?_
      refine RL.val (x_moveB rfl) ?_
      refine RL.gval (wantedF rfl rfl rfl rfl) (fun hg => (x_moveSl rfl)) ?_
      refine RL.gval (wantedF rfl rfl rfl rfl) (fun hg => (x_lenSl Try.underlying31 (gvr hg))) ?_
      refine RL.gval (wantedF rfl rfl rfl rfl) (fun hg => (x_moveSl rfl)) ?_
      refine RL.gval (wantedF rfl rfl rfl rfl) (fun hg => (x_lenSl Try.underlying22 (gvr hg))) ?_
      refine RL.gval (wantedF rfl rfl rfl rfl) (fun hg => (x_neI (gvr hg) (gvr hg))) ?_
      refine RL.val (x_or rfl rfl rfl) ?_
      refine RL.nil ?_
      refine Run.cond rfl (fun hc71 => ?_) (fun hc71 => ?_)
      · try simp only [br] at hc71
        exact absurd hc71 (by omega)
      · try simp only [br] at hc71
        refine Run.skip ?_
        refine Run.seq ?_
        refine Run.seq ?_
        refine Run.region ?_
        refine RL.val (x_moveSl rfl) ?_
        refine RL.val (x_lenSl Try.underlying31 rfl) ?_
        refine RL.val (x_moveI rfl) ?_
        refine RL.nil ?_
        refine Run.block ?_
        refine Run.loop (ι := Nat) (fun i ρ' w' => Holds ρ' [(1, .int .i64 (f)), (5, .slice (a_1) ((fineL keys).length) (c_2)), (6, .pointer (some ⟨s_145, 0, none⟩)), (8, .slice (a_172) (((numL f 0 (fineL keys)).map (msgH 0 1 0)).length) (c_173)), (10, .slice (a_208) (((numL (f + 1000) ((fineL keys).length : Int) (fineL keys)).map (msgH 0 1 0)).length) (c_209)), (73, .int .i64 (((((numL f 0 (fineL keys)).map (msgH 0 1 0)).length : Nat) : Int))), (74, .int .i64 (((i : Nat) : Int)))] ∧ Ext w w' ∧ (OwnSl w' 9 (a_1) (c_2) (fineL keys)) ∧ (OwnSl w' 9 (a_153) (c_154) (fineL keys)) ∧ (OwnSl w' 46 (a_172) (c_173) ((numL f 0 (fineL keys)).map (msgH 0 1 0))) ∧ (OwnSl w' 46 (a_189) (c_190) (([] : List HMsg))) ∧ (SndAt w' s_145 F_210 0 (f + 1000) (((fineL keys).length : Int) + ((fineL keys).length : Int)) [⟨0, 1, numL (f + 1000) ((fineL keys).length : Int) (fineL keys)⟩]) ∧ (OwnSl w' 46 (a_208) (c_209) ((numL (f + 1000) ((fineL keys).length : Int) (fineL keys)).map (msgH 0 1 0))) ∧ (i ≤ (fineL keys).length)) (fun i => (fineL keys).length - i) 0 ?_ ?_
        · refine ⟨⟨rfl, rfl, rfl, rfl, rfl, rfl, rfl, trivial⟩, K0, ho_4, ho_156, ho_176, ho_193, hS_214, ho_212, ?_⟩
          · omega
        clear ho_4 ho_156 ho_176 ho_193 hS_214 ho_212
        clear K0
        rintro i ρ_231 w_229 ⟨hH_230, K0, ho_4, ho_156, ho_176, ho_193, hS_214, ho_212, hi⟩ ih2
        obtain ⟨ρ₀, rfl⟩ := hH_230.ex
        clear hH_230
        refine Run.seq ?_
        refine Run.region ?_
        refine RL.val (x_ltI rfl rfl) ?_
        refine RL.nil ?_
        refine Run.seq ?_
        refine Run.cond rfl (fun hc75 => ?_) (fun hc75 => ?_)
        · try simp only [br] at hc75
          refine Run.skip ?_
          refine Run.seq ?_
          refine Run.block ?_
          refine Run.seq ?_
          refine Run.region ?_
          refine RL.val (x_moveI rfl) ?_
          refine RL.val (x_assignI rfl) ?_
          refine RL.nil ?_
          refine Run.seq ?_
          have hml : ((numL f 0 (fineL keys)).map (msgH 0 1 0)).length = (fineL keys).length := by rw [List.length_map, numL_len]
          have hml3 : ((numL (f + 1000) ((fineL keys).length : Int) (fineL keys)).map (msgH 0 1 0)).length = (fineL keys).length := by rw [List.length_map, numL_len]
          have hiL : i < (fineL keys).length := by omega
          obtain ⟨y, hy, hx, hz⟩ := ag_at (f := f) hiL
          obtain ⟨b_234, o_235, x_238, hx_239, ha_236, hc_237⟩ := ho_176.sl.el (i := i) (by first | omega | (simp only [List.length_set]; omega))
          obtain rfl : (⟨10, 0, 1, (i : Int) + 1, y, 0⟩ : HMsg) = x_238 := Option.some.inj (hx.symm.trans hx_239)
          obtain ⟨b_240, o_241, x_244, hx_245, ha_242, hc_243⟩ := ho_4.sl.el (i := i) (by first | omega | (simp only [List.length_set]; omega))
          obtain rfl : y = x_244 := Option.some.inj (hy.symm.trans hx_245)
          obtain ⟨b_246, o_247, x_250, hx_251, ha_248, hc_249⟩ := ho_212.sl.el (i := i) (by first | omega | (simp only [List.length_set]; omega))
          obtain rfl : (⟨10, 0, 1, ((fineL keys).length : Int) + 1 + (i : Int), y, 0⟩ : HMsg) = x_250 := Option.some.inj (hz.symm.trans hx_251)
          obtain ⟨b_252, o_253, x_256, hx_257, ha_254, hc_255⟩ := ho_4.sl.el (i := i) (by first | omega | (simp only [List.length_set]; omega))
          obtain rfl : y = x_256 := Option.some.inj (hy.symm.trans hx_257)
          obtain ⟨b_258, o_259, x_262, hx_263, ha_260, hc_261⟩ := ho_176.sl.el (i := i) (by first | omega | (simp only [List.length_set]; omega))
          obtain rfl : (⟨10, 0, 1, (i : Int) + 1, y, 0⟩ : HMsg) = x_262 := Option.some.inj (hx.symm.trans hx_263)
          obtain ⟨b_264, o_265, x_268, hx_269, ha_266, hc_267⟩ := ho_212.sl.el (i := i) (by first | omega | (simp only [List.length_set]; omega))
          obtain rfl : (⟨10, 0, 1, ((fineL keys).length : Int) + 1 + (i : Int), y, 0⟩ : HMsg) = x_268 := Option.some.inj (hz.symm.trans hx_269)
          obtain ⟨b_270, o_271, x_274, hx_275, ha_272, hc_273⟩ := ho_176.sl.el (i := i) (by first | omega | (simp only [List.length_set]; omega))
          obtain rfl : (⟨10, 0, 1, (i : Int) + 1, y, 0⟩ : HMsg) = x_274 := Option.some.inj (hx.symm.trans hx_275)
          refine Run.drawT [] (m := 55) (by kernel_rfl) rfl ?_
          intro w_232 K_233
          replace ho_4 := ho_4.ext K_233
          replace ho_156 := ho_156.ext K_233
          replace ho_176 := ho_176.ext K_233
          replace ho_193 := ho_193.ext K_233
          replace hS_214 := hS_214.ext K_233
          replace ho_212 := ho_212.ext K_233
          replace hc_237 := hc_237.ext K_233
          replace hc_243 := hc_243.ext K_233
          replace hc_249 := hc_249.ext K_233
          replace hc_255 := hc_255.ext K_233
          replace hc_261 := hc_261.ext K_233
          replace hc_267 := hc_267.ext K_233
          replace hc_273 := hc_273.ext K_233
          replace K0 := K0.ext K_233
          refine ⟨fun w' => Cl w' b_234 (o_235 + i * 17) (cellsOf (⟨10, 0, 1, (i : Int) + 1, y, 0⟩ : HMsg)) ∧ Cl w' b_240 (o_241 + i * 1) (cellsOf y) ∧ Cl w' b_246 (o_247 + i * 17) (cellsOf (⟨10, 0, 1, ((fineL keys).length : Int) + 1 + (i : Int), y, 0⟩ : HMsg)) ∧ Cl w' b_252 (o_253 + i * 1) (cellsOf y) ∧ Cl w' b_258 (o_259 + i * 17) (cellsOf (⟨10, 0, 1, (i : Int) + 1, y, 0⟩ : HMsg)) ∧ Cl w' b_264 (o_265 + i * 17) (cellsOf (⟨10, 0, 1, ((fineL keys).length : Int) + 1 + (i : Int), y, 0⟩ : HMsg)) ∧ Cl w' b_270 (o_271 + i * 17) (cellsOf (⟨10, 0, 1, (i : Int) + 1, y, 0⟩ : HMsg)) ∧ True, ?_⟩
          refine RT.takeP (v := .slice (a_172) (((numL f 0 (fineL keys)).map (msgH 0 1 0)).length) (c_173)) 0 rfl (by kernel_rfl) (.inr ⟨hc_237, hc_243, hc_249, hc_255, hc_261, hc_267, hc_273, trivial⟩) (fun _ => (x_moveSl rfl)) ?_
          refine RT.takeP (v := .int .i64 (((i : Nat) : Int))) 1 rfl (by kernel_rfl) (.inr ⟨hc_237, hc_243, hc_249, hc_255, hc_261, hc_267, hc_273, trivial⟩) (fun _ => (x_moveI rfl)) ?_
          refine RT.takeP (v := .pointer (some ⟨b_234, o_235 + i * 17, none⟩)) 2 rfl (by kernel_rfl) (.inr ⟨hc_237, hc_243, hc_249, hc_255, hc_261, hc_267, hc_273, trivial⟩) (fun _ => (x_idxN Try.underlying31 ty46 rfl rfl ha_236 (by first | omega | (simp only [List.length_set]; omega)))) ?_
          refine RT.takeP (v := .pointer (some ⟨b_234, o_235 + i * 17 + 4, none⟩)) 3 rfl (by kernel_rfl) (.inr ⟨hc_237, hc_243, hc_249, hc_255, hc_261, hc_267, hc_273, trivial⟩) (fun _ => (x_fld (o' := o_235 + i * 17 + 4) Try.underlying46 rfl ty9 rfl rfl rfl)) ?_
          refine RT.take (v := .string (((⟨10, 0, 1, (i : Int) + 1, y, 0⟩ : HMsg)).key)) 4 rfl (by kernel_rfl) ⟨hc_237, hc_243, hc_249, hc_255, hc_261, hc_267, hc_273, trivial⟩ (by rintro _ ⟨hc_237, hc_243, hc_249, hc_255, hc_261, hc_267, hc_273, -⟩; exact (x_ld ty9 rfl rfl (hc_237.field (i := 4) rfl))) ?_
          refine RT.takeP (v := .slice (a_1) ((fineL keys).length) (c_2)) 5 rfl (by kernel_rfl) (.inr ⟨hc_237, hc_243, hc_249, hc_255, hc_261, hc_267, hc_273, trivial⟩) (fun _ => (x_moveSl rfl)) ?_
          refine RT.takeP (v := .int .i64 (((i : Nat) : Int))) 6 rfl (by kernel_rfl) (.inr ⟨hc_237, hc_243, hc_249, hc_255, hc_261, hc_267, hc_273, trivial⟩) (fun _ => (x_moveI rfl)) ?_
          refine RT.takeP (v := .pointer (some ⟨b_240, o_241 + i * 1, none⟩)) 7 rfl (by kernel_rfl) (.inr ⟨hc_237, hc_243, hc_249, hc_255, hc_261, hc_267, hc_273, trivial⟩) (fun _ => (x_idxN Try.underlying22 ty9 rfl rfl ha_242 (by first | omega | (simp only [List.length_set]; omega)))) ?_
          refine RT.take (v := .string (y)) 8 rfl (by kernel_rfl) ⟨hc_237, hc_243, hc_249, hc_255, hc_261, hc_267, hc_273, trivial⟩ (by rintro _ ⟨hc_237, hc_243, hc_249, hc_255, hc_261, hc_267, hc_273, -⟩; exact (x_ldV (v := .string (y)) (y := y) ty9 rfl hc_243 rfl)) ?_
          refine RT.takeP (v := .bool (false)) 9 rfl (by kernel_rfl) (.inr ⟨hc_237, hc_243, hc_249, hc_255, hc_261, hc_267, hc_273, trivial⟩) (fun _ => (litF (x_neS rfl rfl) (by simp))) ?_
          refine RT.takeP (v := .bool (false)) 10 rfl (by kernel_rfl) (.inr ⟨hc_237, hc_243, hc_249, hc_255, hc_261, hc_267, hc_273, trivial⟩) (fun _ => (x_moveB rfl)) ?_
          refine RT.gtakeP (v := .slice (a_208) (((numL (f + 1000) ((fineL keys).length : Int) (fineL keys)).map (msgH 0 1 0)).length) (c_209)) 11 rfl (by kernel_rfl) (.inr ⟨hc_237, hc_243, hc_249, hc_255, hc_261, hc_267, hc_273, trivial⟩) (wantedF1 rfl rfl rfl rfl) (fun hg _ => (x_moveSl rfl)) ?_
          refine RT.gtakeP (v := .int .i64 (((i : Nat) : Int))) 12 rfl (by kernel_rfl) (.inr ⟨hc_237, hc_243, hc_249, hc_255, hc_261, hc_267, hc_273, trivial⟩) (wantedF1 rfl rfl rfl rfl) (fun hg _ => (x_moveI rfl)) ?_
          refine RT.gtakeP (v := .pointer (some ⟨b_246, o_247 + i * 17, none⟩)) 13 rfl (by kernel_rfl) (.inr ⟨hc_237, hc_243, hc_249, hc_255, hc_261, hc_267, hc_273, trivial⟩) (wantedF1 rfl rfl rfl rfl) (fun hg _ => (x_idxN Try.underlying31 ty46 rfl rfl ha_248 (by first | omega | (simp only [List.length_set]; omega)))) ?_
          refine RT.gtakeP (v := .pointer (some ⟨b_246, o_247 + i * 17 + 4, none⟩)) 14 rfl (by kernel_rfl) (.inr ⟨hc_237, hc_243, hc_249, hc_255, hc_261, hc_267, hc_273, trivial⟩) (wantedF1 rfl rfl rfl rfl) (fun hg _ => (x_fld (o' := o_247 + i * 17 + 4) Try.underlying46 rfl ty9 rfl rfl rfl)) ?_
          refine RT.gtake (v := .string (((⟨10, 0, 1, ((fineL keys).length : Int) + 1 + (i : Int), y, 0⟩ : HMsg)).key)) 15 rfl (by kernel_rfl) ⟨hc_237, hc_243, hc_249, hc_255, hc_261, hc_267, hc_273, trivial⟩ (wantedF1 rfl rfl rfl rfl) (fun hg => by rintro _ ⟨hc_237, hc_243, hc_249, hc_255, hc_261, hc_267, hc_273, -⟩; exact (x_ld ty9 rfl rfl (hc_249.field (i := 4) rfl))) ?_
          refine RT.gtakeP (v := .slice (a_1) ((fineL keys).length) (c_2)) 16 rfl (by kernel_rfl) (.inr ⟨hc_237, hc_243, hc_249, hc_255, hc_261, hc_267, hc_273, trivial⟩) (wantedF1 rfl rfl rfl rfl) (fun hg _ => (x_moveSl rfl)) ?_
          refine RT.gtakeP (v := .int .i64 (((i : Nat) : Int))) 17 rfl (by kernel_rfl) (.inr ⟨hc_237, hc_243, hc_249, hc_255, hc_261, hc_267, hc_273, trivial⟩) (wantedF1 rfl rfl rfl rfl) (fun hg _ => (x_moveI rfl)) ?_
          refine RT.gtakeP (v := .pointer (some ⟨b_252, o_253 + i * 1, none⟩)) 18 rfl (by kernel_rfl) (.inr ⟨hc_237, hc_243, hc_249, hc_255, hc_261, hc_267, hc_273, trivial⟩) (wantedF1 rfl rfl rfl rfl) (fun hg _ => (x_idxN Try.underlying22 ty9 rfl rfl ha_254 (by first | omega | (simp only [List.length_set]; omega)))) ?_
          refine RT.gtake (v := .string (y)) 19 rfl (by kernel_rfl) ⟨hc_237, hc_243, hc_249, hc_255, hc_261, hc_267, hc_273, trivial⟩ (wantedF1 rfl rfl rfl rfl) (fun hg => by rintro _ ⟨hc_237, hc_243, hc_249, hc_255, hc_261, hc_267, hc_273, -⟩; exact (x_ldV (v := .string (y)) (y := y) ty9 rfl hc_255 rfl)) ?_
          refine RT.gtakeP (v := .bool (false)) 20 rfl (by kernel_rfl) (.inr ⟨hc_237, hc_243, hc_249, hc_255, hc_261, hc_267, hc_273, trivial⟩) (wantedF1 rfl rfl rfl rfl) (fun hg _ => (litF (x_neS rfl rfl) (by simp))) ?_
          refine RT.takeP (v := .bool (false)) 21 rfl (by kernel_rfl) (.inr ⟨hc_237, hc_243, hc_249, hc_255, hc_261, hc_267, hc_273, trivial⟩) (fun _ => (x_orF rfl rfl rfl)) ?_
          refine RT.takeP (v := .bool (false)) 22 rfl (by kernel_rfl) (.inr ⟨hc_237, hc_243, hc_249, hc_255, hc_261, hc_267, hc_273, trivial⟩) (fun _ => (x_moveB rfl)) ?_
          refine RT.gtakeP (v := .slice (a_172) (((numL f 0 (fineL keys)).map (msgH 0 1 0)).length) (c_173)) 23 rfl (by kernel_rfl) (.inr ⟨hc_237, hc_243, hc_249, hc_255, hc_261, hc_267, hc_273, trivial⟩) (wantedF1 rfl rfl rfl rfl) (fun hg _ => (x_moveSl rfl)) ?_
          refine RT.gtakeP (v := .int .i64 (((i : Nat) : Int))) 24 rfl (by kernel_rfl) (.inr ⟨hc_237, hc_243, hc_249, hc_255, hc_261, hc_267, hc_273, trivial⟩) (wantedF1 rfl rfl rfl rfl) (fun hg _ => (x_moveI rfl)) ?_
          refine RT.gtakeP (v := .pointer (some ⟨b_258, o_259 + i * 17, none⟩)) 25 rfl (by kernel_rfl) (.inr ⟨hc_237, hc_243, hc_249, hc_255, hc_261, hc_267, hc_273, trivial⟩) (wantedF1 rfl rfl rfl rfl) (fun hg _ => (x_idxN Try.underlying31 ty46 rfl rfl ha_260 (by first | omega | (simp only [List.length_set]; omega)))) ?_
          refine RT.gtakeP (v := .pointer (some ⟨b_258, o_259 + i * 17 + 3, none⟩)) 26 rfl (by kernel_rfl) (.inr ⟨hc_237, hc_243, hc_249, hc_255, hc_261, hc_267, hc_273, trivial⟩) (wantedF1 rfl rfl rfl rfl) (fun hg _ => (x_fld (o' := o_259 + i * 17 + 3) Try.underlying46 rfl ty3 rfl rfl rfl)) ?_
          refine RT.gtake (v := .int .i64 (((⟨10, 0, 1, (i : Int) + 1, y, 0⟩ : HMsg)).req)) 27 rfl (by kernel_rfl) ⟨hc_237, hc_243, hc_249, hc_255, hc_261, hc_267, hc_273, trivial⟩ (wantedF1 rfl rfl rfl rfl) (fun hg => by rintro _ ⟨hc_237, hc_243, hc_249, hc_255, hc_261, hc_267, hc_273, -⟩; exact (x_ld ty3 rfl rfl (hc_261.field (i := 3) rfl))) ?_
          refine RT.gtakeP (v := .slice (a_208) (((numL (f + 1000) ((fineL keys).length : Int) (fineL keys)).map (msgH 0 1 0)).length) (c_209)) 28 rfl (by kernel_rfl) (.inr ⟨hc_237, hc_243, hc_249, hc_255, hc_261, hc_267, hc_273, trivial⟩) (wantedF1 rfl rfl rfl rfl) (fun hg _ => (x_moveSl rfl)) ?_
          refine RT.gtakeP (v := .int .i64 (((i : Nat) : Int))) 29 rfl (by kernel_rfl) (.inr ⟨hc_237, hc_243, hc_249, hc_255, hc_261, hc_267, hc_273, trivial⟩) (wantedF1 rfl rfl rfl rfl) (fun hg _ => (x_moveI rfl)) ?_
          refine RT.gtakeP (v := .pointer (some ⟨b_264, o_265 + i * 17, none⟩)) 30 rfl (by kernel_rfl) (.inr ⟨hc_237, hc_243, hc_249, hc_255, hc_261, hc_267, hc_273, trivial⟩) (wantedF1 rfl rfl rfl rfl) (fun hg _ => (x_idxN Try.underlying31 ty46 rfl rfl ha_266 (by first | omega | (simp only [List.length_set]; omega)))) ?_
          refine RT.gtakeP (v := .pointer (some ⟨b_264, o_265 + i * 17 + 3, none⟩)) 31 rfl (by kernel_rfl) (.inr ⟨hc_237, hc_243, hc_249, hc_255, hc_261, hc_267, hc_273, trivial⟩) (wantedF1 rfl rfl rfl rfl) (fun hg _ => (x_fld (o' := o_265 + i * 17 + 3) Try.underlying46 rfl ty3 rfl rfl rfl)) ?_
          refine RT.gtake (v := .int .i64 (((⟨10, 0, 1, ((fineL keys).length : Int) + 1 + (i : Int), y, 0⟩ : HMsg)).req)) 32 rfl (by kernel_rfl) ⟨hc_237, hc_243, hc_249, hc_255, hc_261, hc_267, hc_273, trivial⟩ (wantedF1 rfl rfl rfl rfl) (fun hg => by rintro _ ⟨hc_237, hc_243, hc_249, hc_255, hc_261, hc_267, hc_273, -⟩; exact (x_ld ty3 rfl rfl (hc_267.field (i := 3) rfl))) ?_
          refine RT.gtakeP (v := .bool (false)) 33 rfl (by kernel_rfl) (.inr ⟨hc_237, hc_243, hc_249, hc_255, hc_261, hc_267, hc_273, trivial⟩) (wantedF1 rfl rfl rfl rfl) (fun hg _ => (litF (x_eqI rfl rfl) (by simp only [beq_eq_false_iff_ne]; omega))) ?_
          refine RT.takeP (v := .bool (false)) 34 rfl (by kernel_rfl) (.inr ⟨hc_237, hc_243, hc_249, hc_255, hc_261, hc_267, hc_273, trivial⟩) (fun _ => (x_orF rfl rfl rfl)) ?_
          refine RT.takeP (v := .bool (false)) 35 rfl (by kernel_rfl) (.inr ⟨hc_237, hc_243, hc_249, hc_255, hc_261, hc_267, hc_273, trivial⟩) (fun _ => (x_moveB rfl)) ?_
          refine RT.gtakeP (v := .pointer (some ⟨s_145, 0, none⟩)) 36 rfl (by kernel_rfl) (.inr ⟨hc_237, hc_243, hc_249, hc_255, hc_261, hc_267, hc_273, trivial⟩) (wantedF1 rfl rfl rfl rfl) (fun hg _ => (x_moveP rfl)) ?_
          refine RT.gtakeP (v := .slice (a_172) (((numL f 0 (fineL keys)).map (msgH 0 1 0)).length) (c_173)) 37 rfl (by kernel_rfl) (.inr ⟨hc_237, hc_243, hc_249, hc_255, hc_261, hc_267, hc_273, trivial⟩) (wantedF1 rfl rfl rfl rfl) (fun hg _ => (x_moveSl rfl)) ?_
          refine RT.gtakeP (v := .int .i64 (((i : Nat) : Int))) 38 rfl (by kernel_rfl) (.inr ⟨hc_237, hc_243, hc_249, hc_255, hc_261, hc_267, hc_273, trivial⟩) (wantedF1 rfl rfl rfl rfl) (fun hg _ => (x_moveI rfl)) ?_
          refine RT.gtakeP (v := .pointer (some ⟨b_270, o_271 + i * 17, none⟩)) 39 rfl (by kernel_rfl) (.inr ⟨hc_237, hc_243, hc_249, hc_255, hc_261, hc_267, hc_273, trivial⟩) (wantedF1 rfl rfl rfl rfl) (fun hg _ => (x_idxN Try.underlying31 ty46 rfl rfl ha_272 (by first | omega | (simp only [List.length_set]; omega)))) ?_
          refine RT.gtake (v := .agg #[.int .i64 (((⟨10, 0, 1, (i : Int) + 1, y, 0⟩ : HMsg)).kind), .int .i64 (((⟨10, 0, 1, (i : Int) + 1, y, 0⟩ : HMsg)).frm), .int .i64 (((⟨10, 0, 1, (i : Int) + 1, y, 0⟩ : HMsg)).to), .int .i64 (((⟨10, 0, 1, (i : Int) + 1, y, 0⟩ : HMsg)).req), .string (((⟨10, 0, 1, (i : Int) + 1, y, 0⟩ : HMsg)).key), .slice (none) (0) (0), .slice (none) (0) (0), .slice (none) (0) (0), .int .i64 (0), .int .i64 (((⟨10, 0, 1, (i : Int) + 1, y, 0⟩ : HMsg)).part), .int .i64 (0), .int .i64 (0), .int .i64 (0), .int .i64 (0), .slice (none) (0) (0), .slice (none) (0) (0), .slice (none) (0) (0)]) 40 rfl (by kernel_rfl) ⟨hc_237, hc_243, hc_249, hc_255, hc_261, hc_267, hc_273, trivial⟩ (wantedF1 rfl rfl rfl rfl) (fun hg => by rintro _ ⟨hc_237, hc_243, hc_249, hc_255, hc_261, hc_267, hc_273, -⟩; exact (x_ldV (v := .agg #[.int .i64 (((⟨10, 0, 1, (i : Int) + 1, y, 0⟩ : HMsg)).kind), .int .i64 (((⟨10, 0, 1, (i : Int) + 1, y, 0⟩ : HMsg)).frm), .int .i64 (((⟨10, 0, 1, (i : Int) + 1, y, 0⟩ : HMsg)).to), .int .i64 (((⟨10, 0, 1, (i : Int) + 1, y, 0⟩ : HMsg)).req), .string (((⟨10, 0, 1, (i : Int) + 1, y, 0⟩ : HMsg)).key), .slice (none) (0) (0), .slice (none) (0) (0), .slice (none) (0) (0), .int .i64 (0), .int .i64 (((⟨10, 0, 1, (i : Int) + 1, y, 0⟩ : HMsg)).part), .int .i64 (0), .int .i64 (0), .int .i64 (0), .int .i64 (0), .slice (none) (0) (0), .slice (none) (0) (0), .slice (none) (0) (0)]) (y := (⟨10, 0, 1, (i : Int) + 1, y, 0⟩ : HMsg)) ty46 rfl hc_273 rfl)) ?_
          refine RT.gtakeP (v := .int .i64 (f)) 42 rfl (by kernel_rfl) (.inr ⟨hc_237, hc_243, hc_249, hc_255, hc_261, hc_267, hc_273, trivial⟩) (wantedF1 rfl rfl rfl rfl) (fun hg _ => (x_moveI rfl)) ?_
          refine RT.gtakeP (v := .int .i64 (f + 1000)) 43 rfl (by kernel_rfl) (.inr ⟨hc_237, hc_243, hc_249, hc_255, hc_261, hc_267, hc_273, trivial⟩) (wantedF1 rfl rfl rfl rfl) (fun hg _ => (x_add rfl rfl (by omega) (by omega))) ?_
          refine RT.gst 41 rfl (by kernel_rfl) (wantedF1 rfl rfl rfl rfl) <| St1.call (vals := [.agg #[.int .i64 (((⟨10, 0, 1, (i : Int) + 1, y, 0⟩ : HMsg)).kind), .int .i64 (((⟨10, 0, 1, (i : Int) + 1, y, 0⟩ : HMsg)).frm), .int .i64 (((⟨10, 0, 1, (i : Int) + 1, y, 0⟩ : HMsg)).to), .int .i64 (((⟨10, 0, 1, (i : Int) + 1, y, 0⟩ : HMsg)).req), .string (((⟨10, 0, 1, (i : Int) + 1, y, 0⟩ : HMsg)).key), .slice (none) (0) (0), .slice (none) (0) (0), .slice (none) (0) (0), .int .i64 (0), .int .i64 (((⟨10, 0, 1, (i : Int) + 1, y, 0⟩ : HMsg)).part), .int .i64 (0), .int .i64 (0), .int .i64 (0), .int .i64 (0), .slice (none) (0) (0), .slice (none) (0) (0), .slice (none) (0) (0)]]) en16 rfl (handed_ (⟨10, 0, 1, (i : Int) + 1, y, 0⟩ : HMsg) _) ?_
          rintro _ w_276 ⟨rfl, K_277⟩
          replace ho_4 := ho_4.ext K_277
          replace ho_156 := ho_156.ext K_277
          replace ho_176 := ho_176.ext K_277
          replace ho_193 := ho_193.ext K_277
          replace hS_214 := hS_214.ext K_277
          replace ho_212 := ho_212.ext K_277
          replace hc_237 := hc_237.ext K_277
          replace hc_243 := hc_243.ext K_277
          replace hc_249 := hc_249.ext K_277
          replace hc_255 := hc_255.ext K_277
          replace hc_261 := hc_261.ext K_277
          replace hc_267 := hc_267.ext K_277
          replace hc_273 := hc_273.ext K_277
          replace K0 := K0.ext K_277
          refine ⟨.inr ⟨hc_237, hc_243, hc_249, hc_255, hc_261, hc_267, hc_273, trivial⟩, ?_⟩
          refine RT.gst 44 rfl (by kernel_rfl) (wantedF1 rfl rfl rfl rfl) <| St1.call (vals := [.pointer (some ⟨s_145, 0, none⟩), .agg #[.int .i64 (((handedM (⟨10, 0, 1, (i : Int) + 1, y, 0⟩ : HMsg))).kind), .int .i64 (((handedM (⟨10, 0, 1, (i : Int) + 1, y, 0⟩ : HMsg))).frm), .int .i64 (((handedM (⟨10, 0, 1, (i : Int) + 1, y, 0⟩ : HMsg))).to), .int .i64 (((handedM (⟨10, 0, 1, (i : Int) + 1, y, 0⟩ : HMsg))).req), .string (((handedM (⟨10, 0, 1, (i : Int) + 1, y, 0⟩ : HMsg))).key), .slice (none) (0) (0), .slice (none) (0) (0), .slice (none) (0) (0), .int .i64 (0), .int .i64 (((handedM (⟨10, 0, 1, (i : Int) + 1, y, 0⟩ : HMsg))).part), .int .i64 (0), .int .i64 (0), .int .i64 (0), .int .i64 (0), .slice (none) (0) (0), .slice (none) (0) (0), .slice (none) (0) (0)], .int .i64 (f + 1000)]) en15 rfl (onQ hS_214 _ _ (by show 1 ≤ 1000; omega) (Int.le_refl _) (ag_no hiL)) ?_
          rintro _ w_278 ⟨rfl, K_279⟩
          replace ho_4 := ho_4.ext K_279
          replace ho_156 := ho_156.ext K_279
          replace ho_176 := ho_176.ext K_279
          replace ho_193 := ho_193.ext K_279
          replace hS_214 := hS_214.ext K_279
          replace ho_212 := ho_212.ext K_279
          replace hc_237 := hc_237.ext K_279
          replace hc_243 := hc_243.ext K_279
          replace hc_249 := hc_249.ext K_279
          replace hc_255 := hc_255.ext K_279
          replace hc_261 := hc_261.ext K_279
          replace hc_267 := hc_267.ext K_279
          replace hc_273 := hc_273.ext K_279
          replace K0 := K0.ext K_279
          refine ⟨.inr ⟨hc_237, hc_243, hc_249, hc_255, hc_261, hc_267, hc_273, trivial⟩, ?_⟩
          refine RT.gtakeP (v := .int .i64 (0)) 45 rfl (by kernel_rfl) (.inr ⟨hc_237, hc_243, hc_249, hc_255, hc_261, hc_267, hc_273, trivial⟩) (wantedF1 rfl rfl rfl rfl) (fun hg _ => (litI (c := 0) (x_lenSl Try.underlying31 rfl) rfl)) ?_
          refine RT.gtakeP (v := .bool (false)) 46 rfl (by kernel_rfl) (.inr ⟨hc_237, hc_243, hc_249, hc_255, hc_261, hc_267, hc_273, trivial⟩) (wantedF1 rfl rfl rfl rfl) (fun hg _ => (litF (x_neI rfl rfl) (by decide))) ?_
          refine RT.takeP (v := .bool (false)) 47 rfl (by kernel_rfl) (.inr ⟨hc_237, hc_243, hc_249, hc_255, hc_261, hc_267, hc_273, trivial⟩) (fun _ => (x_orF rfl rfl rfl)) ?_
          refine RT.takeP (v := .bool (false)) 48 rfl (by kernel_rfl) (.inr ⟨hc_237, hc_243, hc_249, hc_255, hc_261, hc_267, hc_273, trivial⟩) (fun _ => (x_moveB rfl)) ?_
          refine RT.gtakeP (v := .pointer (some ⟨s_145, 0, none⟩)) 49 rfl (by kernel_rfl) (.inr ⟨hc_237, hc_243, hc_249, hc_255, hc_261, hc_267, hc_273, trivial⟩) (wantedF1 rfl rfl rfl rfl) (fun hg _ => (x_moveP rfl)) ?_
          refine RT.gtakeP (v := .slice (a_1) ((fineL keys).length) (c_2)) 51 rfl (by kernel_rfl) (.inr ⟨hc_237, hc_243, hc_249, hc_255, hc_261, hc_267, hc_273, trivial⟩) (wantedF1 rfl rfl rfl rfl) (fun hg _ => (x_moveSl rfl)) ?_
          refine RT.gtakeP (v := .int .i64 ((((fineL keys).length : Nat) : Int))) 52 rfl (by kernel_rfl) (.inr ⟨hc_237, hc_243, hc_249, hc_255, hc_261, hc_267, hc_273, trivial⟩) (wantedF1 rfl rfl rfl rfl) (fun hg _ => (x_lenSl Try.underlying22 rfl)) ?_
          refine RT.gst 50 rfl (by kernel_rfl) (wantedF1 rfl rfl rfl rfl) <| St1.call (vals := [.pointer (some ⟨s_145, 0, none⟩), .int .i64 (0), .int .i64 (1)]) en17 rfl (ag_left hS_214) ?_
          rintro _ w_280 ⟨rfl, K_281⟩
          replace ho_4 := ho_4.ext K_281
          replace ho_156 := ho_156.ext K_281
          replace ho_176 := ho_176.ext K_281
          replace ho_193 := ho_193.ext K_281
          replace hS_214 := hS_214.ext K_281
          replace ho_212 := ho_212.ext K_281
          replace hc_237 := hc_237.ext K_281
          replace hc_243 := hc_243.ext K_281
          replace hc_249 := hc_249.ext K_281
          replace hc_255 := hc_255.ext K_281
          replace hc_261 := hc_261.ext K_281
          replace hc_267 := hc_267.ext K_281
          replace hc_273 := hc_273.ext K_281
          replace K0 := K0.ext K_281
          refine ⟨.inr ⟨hc_237, hc_243, hc_249, hc_255, hc_261, hc_267, hc_273, trivial⟩, ?_⟩
          refine RT.gtakeP (v := .bool (false)) 53 rfl (by kernel_rfl) (.inr ⟨hc_237, hc_243, hc_249, hc_255, hc_261, hc_267, hc_273, trivial⟩) (wantedF1 rfl rfl rfl rfl) (fun hg _ => (litF (x_neI rfl rfl) (by simp))) ?_
          refine RT.takeP (v := .bool (false)) 54 rfl (by kernel_rfl) (.inr ⟨hc_237, hc_243, hc_249, hc_255, hc_261, hc_267, hc_273, trivial⟩) (fun _ => (x_orF rfl rfl rfl)) ?_
          refine RT.done (by kernel_rfl) ?_
          refine Run.condF rfl ?_
          refine Run.skip ?_
          refine Run.inBlock ?_
          refine Run.region ?_
          refine RL.val (litI (c := ((i + 1 : Nat) : Int)) (x_add rfl rfl (by omega) (by omega)) rfl) ?_
          refine RL.val (x_moveI rfl) ?_
          refine RL.nil ?_
          refine ih2 (i + 1) _ _ ?_ (by omega)
          refine ⟨⟨rfl, rfl, rfl, rfl, rfl, rfl, rfl, trivial⟩, K0, ho_4, ho_156, ho_176, ho_193, hS_214, ho_212, ?_⟩
          · omega
        · try simp only [br] at hc75
          refine Run.exit rfl ?_
          refine Run.seq ?_
          refine Run.region ?_
          refine RL.val (x_assignB rfl) ?_
          refine RL.nil ?_
          refine Run.ret1 (v := .bool (true)) Try.func3 rfl rfl ?_
          exact ⟨_, rfl, rfl, K0⟩

end Go.Proofs.Ythhhkjmlnjbnjaa
