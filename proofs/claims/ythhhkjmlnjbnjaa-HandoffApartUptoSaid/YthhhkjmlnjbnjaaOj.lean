/-
  HandoffDone.
-/
import Derived.Test.YthhhkjmlnjbnjaaRows
import Derived.Test.YthhhkjmlnjbnjaaOi
namespace Go.Proofs.Ythhhkjmlnjbnjaa
attribute [local irreducible] St1 RL RA RT RT1 Run

/-! ### keys stay, or one goes -/
section
variable {now r : Int} {l : List Item} {w i : Nat}
theorem sdI_keys : ∀ i, i ≤ l.length → (sdI now w r l i).L.map (·.key) = (l.take i).map (·.key)
  | 0, _ => rfl
  | i + 1, h => by
    have hx : l[i]? = some l[i] := List.getElem?_eq_getElem (by omega)
    have ih := sdI_keys i (by omega)
    rw [sdI_succ hx, sdStep, take_snoc' hx, List.map_append]
    split <;> first | (simp only [List.map_append, ih]; done) | (simp only [List.map_append, ih]; rfl)
theorem aged_keys : (agedL now l).map (·.key) = l.map (·.key) := by
  rw [agedL, List.map_map]
  exact List.map_congr_left fun x _ => by simp only [Function.comp, ageI]; split <;> rfl
theorem tell_keys : (tellP now r l).L.map (·.key) = l.map (·.key) := by
  rw [tellP, sdI_keys _ (by rw [aged_len]; exact Nat.le_refl _), List.take_of_length_le (by rw [aged_len]; exact Nat.le_refl _), aged_keys]
end
/-- messages of one sender's one transfer -/
def TOk (T : List HMsg) : Prop := ∀ m ∈ T, m.part = 5 ∧ m.to = 4
theorem TOk.of (l : List Item) : TOk (l.map (msgH 2 4 5)) := fun m hm => by obtain ⟨x, _, rfl⟩ := List.mem_map.1 hm; exact ⟨rfl, rfl⟩
theorem TOk.app {a b : List HMsg} (h1 : TOk a) (h2 : TOk b) : TOk (a ++ b) := fun m hm => (List.mem_append.1 hm).elim (h1 m) (h2 m)
def keysI (xs : List Item) : List ByteArray := xs.map (·.key)
section
variable {w : World} {s : Nat} {F : Nat → Prop} {L : List ByteArray} {now r : Int} {xs : List Item}
theorem dn_begin (h : SndAt w s F 2 0 0 []) (hR : Rising L) (hk : L.any (fun k => !isKey k) = false) (ak : Option Addr) (ck : Nat) (hka : SlOf w ak L) (hdk : ∀ x, ak = some x → ¬ F x.block) (hl : L.length ≤ 60) :
    Calls Try.prog 11 #[.pointer (some ⟨s, 0, none⟩), .int .i64 5, .int .i64 4, .slice ak L.length ck] w (Ret (SStep s F w 0 2 0 0 [⟨5, 4, newI L⟩])) := by
  have := beginD h 5 4 ak L ck (by decide) hka hdk (by omega) (fun k hk2 => by have := List.any_eq_false.1 hk k hk2; have := isKey_size (k := k) (by simpa using this); omega)
  obtain ⟨e1, e2⟩ := beg_rising (self := 2) (part := 5) (to := 4) hR hk (by decide)
  rwa [e1, e2] at this
theorem dn_tick (h : SndAt w s F 2 now r [⟨5, 4, xs⟩]) (t : Int) (ht : now ≤ t) (ht2 : t ≤ 9223372036854775807) (hr : 0 ≤ r ∧ r ≤ 1000000) :
    Calls Try.prog 14 #[.pointer (some ⟨s, 0, none⟩), .int .i64 t] w (Ret fun v w' => ∃ T xs' r', TOk T ∧ T.length ≤ 4 ∧ keysI xs' = keysI xs ∧ xs'.length = xs.length ∧ r ≤ r' ∧ r' ≤ r + 4 ∧ MStep s F w T 2 t r' [⟨5, 4, xs'⟩] v w') := by
  have := tickD h t (by show 1 ≤ 1000; omega) ht2 hr
  rw [Int.max_eq_right ht, tick_one] at this
  refine ret_mono this fun v w' hM => ?_
  obtain ⟨h1, h2⟩ := tellP_T (now := t) (r := r) (l := xs)
  exact ⟨_, (tellP t r xs).L, (tellP t r xs).r, TOk.of _, by rw [List.length_map]; exact h1, tell_keys, tellP_L, by omega, by omega, hM⟩
theorem del_map {α β : Type} (f : α → β) (l : List α) (k : Nat) : (delI l k).map f = delI (l.map f) k := by rw [delI, delI, List.map_append, List.map_take, List.map_drop]
theorem del_length {α : Type} {l : List α} {k : Nat} (h : k < l.length) : (delI l k).length + 1 = l.length := by rw [delI, List.length_append, List.length_take, List.length_drop]; omega
theorem dn_on (h : SndAt w s F 2 now r [⟨5, 4, xs⟩]) (m : HMsg) (t : Int) (hp : m.part = 5 ∧ m.to = 4) (ht : t = now) (ht2 : t ≤ 9223372036854775807) (hr : 0 ≤ r ∧ r ≤ 1000000) :
    Calls Try.prog 15 #[.pointer (some ⟨s, 0, none⟩), .agg #[.int .i64 (((handedM m)).kind), .int .i64 (((handedM m)).frm), .int .i64 (((handedM m)).to), .int .i64 (((handedM m)).req), .string (((handedM m)).key), .slice (none) (0) (0), .slice (none) (0) (0), .slice (none) (0) (0), .int .i64 (0), .int .i64 (((handedM m)).part), .int .i64 (0), .int .i64 (0), .int .i64 (0), .int .i64 (0), .slice (none) (0) (0), .slice (none) (0) (0), .slice (none) (0) (0)], .int .i64 t] w (Ret fun v w' => ∃ T xs' r', TOk T ∧ T.length ≤ 4 ∧ r ≤ r' ∧ r' ≤ r + 4 ∧
      ((keysI xs' = keysI xs ∧ xs'.length = xs.length) ∨ (∃ j, j < xs.length ∧ keysI xs' = delI (keysI xs) j ∧ (keysI xs)[j]? = some m.key ∧ xs'.length + 1 = xs.length)) ∧ MStep s F w T 2 t r' [⟨5, 4, xs'⟩] v w') := by
  have hO := onD h (handedM m) t (by show 1 ≤ 1000; omega) ht2 hr
  have hmx : max now t = t := by rw [ht]; exact Int.max_self _
  rw [hmx] at hO
  have hi : List.findIdx? (sameT (handedM m).part (handedM m).frm) [(⟨5, 4, xs⟩ : PTr Item)] = some 0 := by
    rw [List.findIdx?_cons, if_pos]
    simp only [sameT, handedM, hp.1, hp.2, decide_true, Bool.and_self]
  refine ret_mono hO fun v w' hM => ?_
  cases hx : xs.findIdx? (ackI (handedM m).key (handedM m).req) with
  | none =>
    have e : onP 2 t r [⟨5, 4, xs⟩] (handedM m) = ⟨r, [⟨5, 4, xs⟩], []⟩ := by
      unfold onP; rw [if_pos (show (handedM m).kind = 11 from rfl), hi]; simp only [List.getElem?_cons_zero, hx]
    rw [e] at hM
    exact ⟨[], xs, r, fun m h => by simp at h, by simp, Int.le_refl _, by omega, .inl ⟨rfl, rfl⟩, hM⟩
  | some j =>
    have e : onP 2 t r [⟨5, 4, xs⟩] (handedM m) = ⟨(tellP t r (delI xs j)).r, [⟨5, 4, (tellP t r (delI xs j)).L⟩], (tellP t r (delI xs j)).T.map (msgH 2 4 5)⟩ := by
      unfold onP; rw [if_pos (show (handedM m).kind = 11 from rfl), hi]; simp only [List.getElem?_cons_zero, hx, List.set_cons_zero]
    rw [e] at hM
    obtain ⟨hjl, hjp, -⟩ := List.findIdx?_eq_some_iff_getElem.1 hx
    obtain ⟨h1, h2⟩ := tellP_T (now := t) (r := r) (l := delI xs j)
    refine ⟨_, (tellP t r (delI xs j)).L, (tellP t r (delI xs j)).r, TOk.of _, by rw [List.length_map]; exact h1, by omega, by omega, .inr ⟨j, hjl, ?_, ?_, ?_⟩, hM⟩
    · show (tellP t r (delI xs j)).L.map (·.key) = delI (xs.map (·.key)) j
      rw [tell_keys, del_map]
    · rw [keysI, List.getElem?_map, List.getElem?_eq_getElem hjl]
      simp only [ackI, Bool.and_eq_true, decide_eq_true_eq] at hjp
      rw [Option.map_some, hjp.1.1]; rfl
    · rw [tellP_L, del_length hjl]
theorem dn_left (h : SndAt w s F 2 now r [⟨5, 4, xs⟩]) : Calls Try.prog 17 #[.pointer (some ⟨s, 0, none⟩), .int .i64 5, .int .i64 4] w (Ret fun v w' => v = .int .i64 ((xs.length : Nat) : Int) ∧ Ext w w') := leftD h 5 4 (by show 1 ≤ 1000; omega)
theorem dn_done (h : SndAt w s F 2 now r [⟨5, 4, xs⟩]) : Calls Try.prog 18 #[.pointer (some ⟨s, 0, none⟩), .int .i64 5, .int .i64 4] w (Ret fun v w' => v = .bool (decide (((xs.length : Nat) : Int) = 0)) ∧ Ext w w') := by
  rw [← done_eq]; exact doneD h 5 4 (by show 1 ≤ 1000; omega)
theorem dn_mod (u : Int) (h0 : 0 ≤ u) (n : Nat) (hn : 0 < n) (hn2 : n ≤ 1000000) : IntKind.u64.wrap (n : Int) ≠ 0 ∧ ∃ d : Nat, u.tmod (IntKind.u64.wrap (n : Int)) = (d : Int) ∧ d < n := by
  have e : IntKind.u64.wrap (n : Int) = (n : Int) := by
    have e1 : IntKind.u64.bits = 64 := rfl
    have e2 : IntKind.u64.signed = false := rfl
    simp only [IntKind.wrap, e1, e2, Bool.false_and]
    rw [show (2 : Int) ^ 64 = 18446744073709551616 by decide]
    exact Int.emod_eq_of_lt (by omega) (by omega)
  rw [e]
  have h1 : 0 ≤ u.tmod (n : Int) := Int.tmod_nonneg _ h0
  have h2 : u.tmod (n : Int) < n := Int.tmod_lt_of_pos _ (by omega)
  exact ⟨by omega, (u.tmod n).toNat, by omega, by omega⟩
theorem done_fin {a b c : Nat} (h : a + b = c) : (decide ((b : Int) = 0) == ((a : Int) == (c : Int))) = true := by
  subst h
  have e : ((a : Int) == ((a + b : Nat) : Int)) = decide ((b : Int) = 0) := by rw [Bool.eq_iff_iff, beq_iff_eq, decide_eq_true_eq]; omega
  rw [e]; exact beq_self_eq_true _
theorem done_fin2 {a b c : Nat} (h : a + b = c) : decide ((b : Int) = 0) = ((a : Int) == (c : Int)) := by
  have := done_fin h
  simpa using this
def akE (l : List ByteArray) : List (ByteArray × Value) := l.map (fun k => (k, .bool true))
theorem akE_len (l : List ByteArray) : (akE l).length = l.length := List.length_map ..
theorem mfind_no {n : ByteArray} : ∀ {ps : List (ByteArray × Value)} {i : Nat}, (∀ p ∈ ps, p.1 ≠ n) → mfind n ps i = none
  | [], _, _ => rfl
  | p :: ps, i, h => by rw [mfind, if_neg (fun e => h p (by simp) e.symm)]; exact mfind_no fun q hq => h q (by simp [hq])
theorem akE_put {l : List ByteArray} {k : ByteArray} (h : k ∉ l) : mput (akE l) k (.bool true) = akE (l ++ [k]) := by
  rw [mput, mfind_no (fun p hp e => by obtain ⟨x, hx, rfl⟩ := List.mem_map.1 hp; exact h (e ▸ hx))]
  simp [akE]
theorem newI_keys (l : List ByteArray) : keysI (newI l) = l := newI_key l
theorem dn_del {ks aks : List ByteArray} {j : Nat} {k : ByteArray} (hn : ks.Nodup) (hd : ∀ a ∈ aks, a ∉ ks) (hj : ks[j]? = some k) : (delI ks j).Nodup ∧ ∀ a ∈ aks ++ [k], a ∉ delI ks j := by
  obtain ⟨hl, rfl⟩ := List.getElem?_eq_some_iff.1 hj
  have e : ks = ks.take j ++ ks[j] :: ks.drop (j + 1) := by rw [← List.drop_eq_getElem_cons hl, List.take_append_drop]
  have hp : (ks[j] :: delI ks j).Nodup := by
    have := (List.perm_middle (a := ks[j]) (l₁ := ks.take j) (l₂ := ks.drop (j + 1))).nodup_iff.1 (e ▸ hn)
    exact this
  obtain ⟨h1, h2⟩ := List.nodup_cons.1 hp
  refine ⟨h2, fun a ha hm => ?_⟩
  rcases List.mem_append.1 ha with ha | ha
  · exact hd a ha (mem_del hm)
  · simp only [List.mem_singleton] at ha; subst ha; exact h1 hm
end

theorem ty30 : Ty Try.prog 30 1 8 (.int .u64 (0)) false := ty_of (by kernel_rfl) (by kernel_rfl)

set_option maxRecDepth 100000 in
set_option maxHeartbeats 4000000 in
theorem law_done (ak : Option Addr) (keys : List ByteArray) (ck : Nat) (aa : Option Addr) (acks : List U64) (ca : Nat) (at_ : Option Addr) (times : List Int) (ct : Nat) (w : World) (hka : SlOf w ak keys) (hkyl : keys.length ≤ 1048576) (hks : ∀ k ∈ keys, k.size ≤ 4294967295) (haa : SlOf w aa acks) (hal0 : acks.length ≤ 1048576) (hU : ∀ u ∈ acks, 0 ≤ u.v ∧ u.v ≤ 18446744073709551615) (hat : SlOf w at_ times) (htl0 : times.length ≤ 1048576) :
    Calls Try.prog 4 #[.slice (ak) (keys.length) (ck), .slice (aa) (acks.length) (ca), .slice (at_) (times.length) (ct)] w (Ret (fun v w' => v = .bool true ∧ Ext w w')) := by
  refine calls_run (n := 141) Try.func4 rfl rfl rfl ?_
  refine Run.seq ?_
  refine Run.region ?_
  refine RL.val (x_assignB rfl) ?_
  refine RL.nil ?_
  refine Run.seq ?_
  refine Run.region ?_
  refine RL.val (x_moveSl rfl) ?_
  refine RL.st rfl <| St1.call (vals := [.slice (ak) (keys.length) (ck)]) en9 rfl (fine_ _ keys _ _ hka (by first | decide | assumption | omega) (by assumption)) ?_
  rintro _ w_3 ⟨a_1, c_2, rfl, ho_4, hg_5, K_6⟩
  have pg_7 : ∀ q_, own a_1 q_ → w.heap.size ≤ q_ := fun q_ h => Nat.le_trans (Nat.le_refl _) (hg_5 q_ h)
  clear hg_5
  have K0 := (K_6 : Ext w _)
  refine RL.val (x_assignSl rfl) ?_
  refine RL.nil ?_
  have hfl := fine_len keys
  have hnl := newI_len (fineL keys)
  refine Run.seq ?_
  refine Run.region ?_
  refine RL.st rfl <| St1.call (vals := [.int .i64 (2)]) en10 rfl (newD 2 _) ?_
  rintro _ w_10 (⟨hnr, rfl, K_13⟩ | ⟨hrm, s_8, F_9, rfl, hS_11, hg_12, K_13⟩)
  · exact absurd (by decide) hnr
  · have pr_14 : ∀ q_, F_9 q_ → ¬ own a_1 q_ := apartNew hg_12 ho_4.own_lt
    have pg_15 : ∀ q_, F_9 q_ → w.heap.size ≤ q_ := fun q_ h => Nat.le_trans K0.size (hg_12 q_ h)
    clear hg_12
    replace ho_4 := ho_4.ext K_13
    replace K0 := K0.ext K_13
    refine RL.val (x_moveT rfl) ?_
    refine RL.val (x_extract rfl rfl) ?_
    refine RL.val (x_extract rfl rfl) ?_
    refine RL.val (x_assignP rfl) ?_
    refine RL.val (x_assignI rfl) ?_
    refine RL.nil ?_
    refine Run.seq ?_
    refine Run.seq ?_
    refine Run.region ?_
    refine RL.val (x_moveI rfl) ?_
    refine RL.val (litF (x_neI rfl rfl) (by decide)) ?_
    refine RL.val (x_moveB rfl) ?_
    refine RL.gst (wantedF1 rfl rfl rfl rfl) <| St1.val (x_moveP rfl) ?_
    refine RL.gst (wantedF1 rfl rfl rfl rfl) <| St1.val (litF (x_ptrNil Try.underlying24 rfl rfl) rfl) ?_
    refine RL.val (x_orF rfl rfl rfl) ?_
    refine RL.val (x_moveB rfl) ?_
    refine RL.gst (wantedF1 rfl rfl rfl rfl) <| St1.val (x_moveP rfl) ?_
    refine RL.gst (wantedF1 rfl rfl rfl rfl) <| St1.val (x_moveSl rfl) ?_
    refine RL.gst (wantedF1 rfl rfl rfl rfl) <| St1.call (vals := [.slice (a_1) ((fineL keys).length) (c_2)]) en12 rfl (clone_str _ _ _ _ ho_4.sl (by omega)) ?_
    rintro _ w_18 ⟨a_16, c_17, rfl, ho_19, hg_20, K_21⟩
    have pr_22 : ∀ q_, own a_16 q_ → ¬ own a_1 q_ := apartNew hg_20 ho_4.own_lt
    have pr_23 : ∀ q_, own a_16 q_ → ¬ F_9 q_ := apartNew hg_20 hS_11.own_lt
    have pg_24 : ∀ q_, own a_16 q_ → w.heap.size ≤ q_ := fun q_ h => Nat.le_trans K0.size (hg_20 q_ h)
    clear hg_20
    replace ho_4 := ho_4.ext K_21
    replace hS_11 := hS_11.ext K_21
    replace K0 := K0.ext K_21
    refine RL.gst (wantedF1 rfl rfl rfl rfl) <| St1.call (vals := [.pointer (some ⟨s_8, 0, none⟩), .int .i64 (5), .int .i64 (4), .slice (a_16) ((fineL keys).length) (c_17)]) en11 rfl (dn_begin (L := (fineL keys)) hS_11 (fine_rises keys) (fine_any keys) _ _ ho_19.sl (fun x_ hx_ => pr_23 _ ⟨x_, hx_, rfl⟩) hfl) ?_
    rintro _ w_26 ⟨F_25, rfl, hS_27, hm_28, K_29⟩
    have pr_30 : ∀ q_, F_25 q_ → ¬ own a_1 q_ := hm_28.apart pr_14 ho_4.own_lt
    have pr_31 : ∀ q_, F_25 q_ → ¬ own a_16 q_ := hm_28.apart (fun q_ h1 h2 => pr_23 q_ h2 h1) ho_19.own_lt
    have pg_32 : ∀ q_, F_25 q_ → w.heap.size ≤ q_ := hm_28.ge pg_15 K0.size
    replace ho_4 := ho_4.keepO K_29 (fun q_ h1 h2 => pr_14 q_ h2 h1)
    replace ho_19 := ho_19.keepO K_29 pr_23
    replace K0 := K0.new K_29 pg_15
    clear hm_28
    refine RL.gst (wantedF1 rfl rfl rfl rfl) <| St1.val (litF (x_neI rfl rfl) (by decide)) ?_
    refine RL.val (x_orF rfl rfl rfl) ?_
    refine RL.val (x_moveB rfl) ?_
    refine RL.gst (wantedF1 rfl rfl rfl rfl) <| St1.call (vals := []) en13 rfl (awake_ _) ?_
    rintro _ w_33 ⟨rfl, K_34⟩
    replace ho_4 := ho_4.ext K_34
    replace ho_19 := ho_19.ext K_34
    replace hS_27 := hS_27.ext K_34
    replace K0 := K0.ext K_34
    refine RL.gst (wantedF1 rfl rfl rfl rfl) <| St1.val (x_not rfl) ?_
    refine RL.val (x_orF rfl rfl rfl) ?_
    refine RL.nil ?_
    refine Run.condF rfl ?_
    refine Run.skip ?_
    refine Run.seq ?_
    refine Run.region ?_
    refine RL.st rfl <| St1.makeMap (κ := ByteArray) ?_
    intro m_35 w_36 hl_37 hM_38 K_39
    have pr_40 : ∀ q_, one m_35 q_ → ¬ own a_1 q_ := apartNew (ge_one hl_37) ho_4.own_lt
    have pr_41 : ∀ q_, one m_35 q_ → ¬ own a_16 q_ := apartNew (ge_one hl_37) ho_19.own_lt
    have pr_42 : ∀ q_, one m_35 q_ → ¬ F_25 q_ := apartNew (ge_one hl_37) hS_27.own_lt
    have pg_43 : ∀ q_, one m_35 q_ → w.heap.size ≤ q_ := fun q_ h => Nat.le_trans K0.size ((ge_one hl_37) q_ h)
    clear hl_37
    replace ho_4 := ho_4.ext K_39
    replace ho_19 := ho_19.ext K_39
    replace hS_27 := hS_27.ext K_39
    replace K0 := K0.ext K_39
    refine RL.val (x_assignM rfl) ?_
    refine RL.nil ?_
    refine Run.seq ?_
    refine Run.region ?_
    refine RL.val (x_assignSl rfl) ?_
    refine RL.nil ?_
    refine Run.seq ?_
    refine Run.region ?_
    refine RL.val (x_assignI rfl) ?_
    refine RL.nil ?_
    refine Run.seq ?_
    refine Run.seq ?_
    refine Run.region ?_
    refine RL.val (x_moveSl rfl) ?_
    refine RL.val (x_lenSl Try.underlying51 rfl) ?_
    refine RL.val (x_moveI rfl) ?_
    refine RL.nil ?_
    refine Run.block ?_
    refine Run.loop (ι := Nat) (fun i ρ' w' => ∃ xs : List Item, ∃ r : Int, ∃ now : Int, ∃ F1 : Nat → Prop, ∃ aks : List ByteArray, ∃ td : List HMsg, ∃ am : Option Addr, ∃ cm : Nat, Holds ρ' [(2, .slice (at_) (times.length) (ct)), (7, .slice (a_1) ((fineL keys).length) (c_2)), (8, .pointer (some ⟨s_8, 0, none⟩)), (10, .map (some m_35)), (11, .slice (am) ((td).length) (cm)), (12, .int .i64 (now)), (43, .slice (aa) (acks.length) (ca)), (44, .int .i64 (((acks.length : Nat) : Int))), (45, .int .i64 (((i : Nat) : Int)))] ∧ Ext w w' ∧ (OwnSl w' 9 (a_1) (c_2) (fineL keys)) ∧ (OwnSl w' 9 (a_16) (c_17) (fineL keys)) ∧ (SndAt w' s_8 F1 2 now r [⟨5, 4, xs⟩]) ∧ (MapAt w' m_35 (akE aks)) ∧ (OwnSl w' 46 am cm (td)) ∧ (∀ q_, F1 q_ → ¬ own a_1 q_) ∧ (∀ q_, F1 q_ → ¬ own a_16 q_) ∧ (∀ q_, F1 q_ → ¬ one m_35 q_) ∧ (∀ q_, F1 q_ → ¬ own am q_) ∧ (∀ q_, F1 q_ → w.heap.size ≤ q_) ∧ (∀ q_, one m_35 q_ → ¬ own a_1 q_) ∧ (∀ q_, one m_35 q_ → ¬ own a_16 q_) ∧ (∀ q_, one m_35 q_ → ¬ own am q_) ∧ (∀ q_, one m_35 q_ → w.heap.size ≤ q_) ∧ (∀ q_, own am q_ → ¬ own a_1 q_) ∧ (∀ q_, own am q_ → ¬ own a_16 q_) ∧ (∀ q_, own am q_ → w.heap.size ≤ q_) ∧ (i ≤ acks.length) ∧ (i ≤ 201) ∧ (0 ≤ now ∧ now ≤ 1500 * (i : Int)) ∧ (0 ≤ r ∧ r ≤ 8 * (i : Int)) ∧ (TOk td) ∧ (td.length ≤ 8 * i) ∧ (aks.length + xs.length = (fineL keys).length) ∧ ((keysI xs).Nodup) ∧ (∀ a ∈ aks, a ∉ keysI xs)) (fun i => acks.length - i) 0 ?_ ?_
    · have ho_61 := OwnSl.nil (α := HMsg) w_36 46
      refine ⟨newI (fineL keys), 0, 0, _, [], [], _, _, ⟨rfl, rfl, rfl, rfl, rfl, rfl, rfl, rfl, rfl, trivial⟩, K0, ho_4, ho_19, hS_27, hM_38, ho_61, pr_30, pr_31, (fun q_ h1 h2 => pr_42 q_ h2 h1), (fun q_ h1 h2 => (fun q_ h1 _ => own_none q_ h1) q_ h2 h1), pg_32, pr_40, pr_41, (fun q_ h1 h2 => (fun q_ h1 _ => own_none q_ h1) q_ h2 h1), pg_43, (fun q_ h1 _ => own_none q_ h1), (fun q_ h1 _ => own_none q_ h1), (fun q_ h1 => absurd h1 (own_none q_)), ?_, ?_, ?_, ?_, ?_, ?_, ?_, ?_, ?_⟩
      · omega
      · omega
      · omega
      · omega
      · exact fun m h => by simp at h
      · simp
      · simp [newI_len]
      · rw [newI_keys]; exact (fine_rises keys).nodup
      · exact fun a h => by simp at h
    clear ho_4 ho_19 hS_27 hM_38
    clear K0
    rintro i ρ_62 w_44 ⟨xs, r, now, F1, aks, td, am, cm, hH_45, K0, ho_4, ho_19, hO_46, hO_47, ho_48, pr_49, pr_50, pr_51, pr_52, pr_53, pr_54, pr_55, pr_56, pr_57, pr_58, pr_59, pr_60, hi, hi2, hnw, hr, htd, htl, hxa, hnd, hdj⟩ ih1
    obtain ⟨ρ₀, rfl⟩ := hH_45.ex
    clear hH_45
    refine Run.seq ?_
    refine Run.region ?_
    refine RL.val (x_ltI rfl rfl) ?_
    refine RL.nil ?_
    refine Run.seq ?_
    refine Run.cond rfl (fun hc46 => ?_) (fun hc46 => ?_)
    · try simp only [br] at hc46
      refine Run.skip ?_
      refine Run.seq ?_
      refine Run.block ?_
      refine Run.seq ?_
      refine Run.region ?_
      refine RL.val (x_moveI rfl) ?_
      obtain ⟨b_63, o_64, k, hk, ha_65, hc_66⟩ := haa.el (i := i) (by first | omega | (simp only [List.length_set]; omega))
      have hc_66_lt := hc_66.lt
      replace hc_66 := hc_66.ext K0
      refine RL.val (x_idxN Try.underlying51 ty30 rfl rfl ha_65 (by first | omega | (simp only [List.length_set]; omega))) ?_
      refine RL.val (x_ldV (v := .int .u64 ((k).v)) (y := k) ty30 rfl hc_66 rfl) ?_
      refine RL.val (x_assignI rfl) ?_
      refine RL.val (x_assignI rfl) ?_
      refine RL.nil ?_
      have hki := hk
      refine Run.seq ?_
      refine Run.seq ?_
      refine Run.region ?_
      refine RL.val (x_moveI rfl) ?_
      refine RL.val (x_gtI rfl rfl) ?_
      refine RL.nil ?_
      refine Run.cond rfl (fun hc51 => ?_) (fun hc51 => ?_)
      · try simp only [br] at hc51
        refine Run.exit rfl ?_
        refine Run.seq ?_
        refine Run.region ?_
        refine RL.val (x_moveP rfl) ?_
        refine RL.st rfl <| St1.call (vals := [.pointer (some ⟨s_8, 0, none⟩), .int .i64 (5), .int .i64 (4)]) en18 rfl (dn_done hO_46) ?_
        rintro _ w_69 ⟨rfl, K_70⟩
        replace ho_4 := ho_4.ext K_70
        replace ho_19 := ho_19.ext K_70
        replace hO_46 := hO_46.ext K_70
        replace hO_47 := hO_47.ext K_70
        replace ho_48 := ho_48.ext K_70
        replace K0 := K0.ext K_70
        refine RL.val (x_moveM rfl) ?_
        refine RL.val (x_lenMap Try.underlying53 rfl hO_47) ?_
        refine RL.val (x_moveSl rfl) ?_
        refine RL.val (x_lenSl Try.underlying22 rfl) ?_
        refine RL.val (x_eqI rfl rfl) ?_
        refine RL.val (x_eqB Try.underlying4 rfl rfl) ?_
        refine RL.val (x_assignB rfl) ?_
        refine RL.nil ?_
        refine Run.ret1 (v := .bool ((decide (((xs.length : Nat) : Int) = 0)) == ((((akE aks).length : Nat) : Int) == (((fineL keys).length : Nat) : Int)))) Try.func4 rfl rfl ?_
        exact ⟨_, rfl, congrArg Value.bool (by rw [akE_len]; exact done_fin hxa), K0⟩
      · try simp only [br] at hc51
        refine Run.skip ?_
        refine Run.seq ?_
        refine Run.seq ?_
        refine Run.region ?_
        refine RL.val (x_moveI rfl) ?_
        refine RL.val (x_moveSl rfl) ?_
        refine RL.val (x_lenSl Try.underlying52 rfl) ?_
        refine RL.val (x_ltI rfl rfl) ?_
        refine RL.nil ?_
        refine Run.cond rfl (fun hc55 => ?_) (fun hc55 => ?_)
        · try simp only [br] at hc55
          refine Run.region ?_
          refine RL.val (x_moveI rfl) ?_
          refine RL.val (x_moveSl rfl) ?_
          refine RL.val (x_moveI rfl) ?_
          obtain ⟨b_71, o_72, dt, hdt, ha_73, hc_74⟩ := hat.el (i := i) (by first | omega | (simp only [List.length_set]; omega))
          have hc_74_lt := hc_74.lt
          replace hc_74 := hc_74.ext K0
          refine RL.val (x_idxN Try.underlying52 ty3 rfl rfl ha_73 (by first | omega | (simp only [List.length_set]; omega))) ?_
          refine RL.val (x_ldV (v := .int .i64 (dt)) (y := dt) ty3 rfl hc_74 rfl) ?_
          obtain ⟨d0, hd0, hd1, hd2⟩ := few_d 1500 dt (by decide) (by decide)
          refine RL.val (x_convI rfl ⟨_, Try.underlying3⟩ Try.underlying30) ?_
          refine RL.val (x_rem rfl rfl (by decide)) ?_
          refine RL.val (litI (c := d0) (x_convI rfl ⟨_, Try.underlying30⟩ Try.underlying3) hd0) ?_
          refine RL.val (x_add rfl rfl (by omega) (by omega)) ?_
          refine RL.val (x_assignI rfl) ?_
          refine RL.nil ?_
          refine Run.seq ?_
          refine Run.region ?_
          refine RL.val (x_moveP rfl) ?_
          refine RL.val (x_moveI rfl) ?_
          refine RL.st rfl <| St1.call (vals := [.pointer (some ⟨s_8, 0, none⟩), .int .i64 (now + d0)]) en14 rfl (dn_tick hO_46 (now + d0) (by omega) (by omega) (by omega)) ?_
          rintro _ w_89 ⟨T_77, xs_78, r_79, hT_80, hTl_81, hxk_82, hxl_83, hra_84, hrb_85, a_86, c_87, F_88, rfl, ho_90, hg_91, hS_92, hm_93, hap_94, K_95⟩
          have pr_96 : ∀ q_, own a_86 q_ → ¬ own a_1 q_ := apartNew hg_91 ho_4.own_lt
          have pr_97 : ∀ q_, own a_86 q_ → ¬ own a_16 q_ := apartNew hg_91 ho_19.own_lt
          have pr_98 : ∀ q_, own a_86 q_ → ¬ F1 q_ := apartNew hg_91 hO_46.own_lt
          have pr_99 : ∀ q_, own a_86 q_ → ¬ one m_35 q_ := apartNew hg_91 hO_47.own_lt
          have pr_100 : ∀ q_, own a_86 q_ → ¬ own am q_ := apartNew hg_91 ho_48.own_lt
          have pg_101 : ∀ q_, own a_86 q_ → w.heap.size ≤ q_ := fun q_ h => Nat.le_trans K0.size (hg_91 q_ h)
          clear hg_91
          have pr_102 : ∀ q_, F_88 q_ → ¬ own a_1 q_ := hm_93.apart pr_49 ho_4.own_lt
          have pr_103 : ∀ q_, F_88 q_ → ¬ own a_16 q_ := hm_93.apart pr_50 ho_19.own_lt
          have pr_104 : ∀ q_, F_88 q_ → ¬ one m_35 q_ := hm_93.apart pr_51 hO_47.own_lt
          have pr_105 : ∀ q_, F_88 q_ → ¬ own am q_ := hm_93.apart pr_52 ho_48.own_lt
          have pg_106 : ∀ q_, F_88 q_ → w.heap.size ≤ q_ := hm_93.ge pr_53 K0.size
          replace ho_4 := ho_4.keepO K_95 (fun q_ h1 h2 => pr_49 q_ h2 h1)
          replace ho_19 := ho_19.keepO K_95 (fun q_ h1 h2 => pr_50 q_ h2 h1)
          replace hO_47 := hO_47.keepO K_95 (fun q_ h1 h2 => pr_51 q_ h2 h1)
          replace ho_48 := ho_48.keepO K_95 (fun q_ h1 h2 => pr_52 q_ h2 h1)
          replace K0 := K0.new K_95 pr_53
          clear hm_93
          refine RL.val (x_assignSl rfl) ?_
          refine RL.nil ?_
          refine Run.seq ?_
          refine Run.region ?_
          refine RL.val (x_moveSl rfl) ?_
          refine RL.val (x_moveSl rfl) ?_
          refine RL.st rfl <| St1.append (xs := td) (ys := T_77) Try.underlying31 ty46 rfl rfl rfl ho_48 ho_90.sl (by first | omega | (simp only [lr]; omega)) (by decide) ?_
          intro a_107 c_108 w_109 ho_110 K_111 hm_112 hrm_113
          have pr_114 : ∀ q_, own a_107 q_ → ¬ own a_1 q_ := hm_112.apart pr_58 ho_4.own_lt
          have pr_115 : ∀ q_, own a_107 q_ → ¬ own a_16 q_ := hm_112.apart pr_59 ho_19.own_lt
          have pr_116 : ∀ q_, own a_107 q_ → ¬ one m_35 q_ := hm_112.apart (fun q_ h1 h2 => pr_56 q_ h2 h1) hO_47.own_lt
          have pr_117 : ∀ q_, own a_107 q_ → ¬ F_88 q_ := hm_112.apart (fun q_ h1 h2 => pr_105 q_ h2 h1) hS_92.own_lt
          have pr_118 : ∀ q_, own a_107 q_ → ¬ own a_86 q_ := hm_112.apart (fun q_ h1 h2 => pr_100 q_ h2 h1) ho_90.own_lt
          have pg_119 : ∀ q_, own a_107 q_ → w.heap.size ≤ q_ := hm_112.ge pr_60 K0.size
          replace ho_4 := ho_4.keepO K_111 (fun q_ h1 h2 => pr_58 q_ h2 h1)
          replace ho_19 := ho_19.keepO K_111 (fun q_ h1 h2 => pr_59 q_ h2 h1)
          replace hO_47 := hO_47.keepO K_111 pr_56
          replace hS_92 := hS_92.keepO K_111 pr_105
          replace ho_90 := ho_90.keepO K_111 pr_100
          replace K0 := K0.new K_111 pr_60
          clear hm_112
          clear hrm_113
          refine RL.val (x_assignSl rfl) ?_
          refine RL.nil ?_
          refine Run.seq ?_
          refine Run.seq ?_
          have hal := akE_len aks
          have htdl : (td ++ T_77).length = td.length + (T_77).length := List.length_append
          refine Run.region ?_
          refine RL.val (x_moveSl rfl) ?_
          refine RL.val (x_lenSl Try.underlying31 rfl) ?_
          refine RL.val (x_gtI rfl rfl) ?_
          refine RL.val (x_moveB rfl) ?_
          refine RL.gval (wantedF rfl rfl rfl rfl) (fun hg => (x_moveP rfl)) ?_
          refine RL.gcall (vals := [.pointer (some ⟨s_8, 0, none⟩), .int .i64 (5), .int .i64 (4)]) (wantedF rfl rfl rfl rfl) en18 (fun hg => (mcons (gvr hg) (mcons rfl (mcons rfl mnil)))) (fun hg => (dn_done hS_92)) ?_
          intro w_120 K_121
          replace ho_4 := ho_4.ext K_121
          replace ho_19 := ho_19.ext K_121
          replace hO_47 := hO_47.ext K_121
          replace hS_92 := hS_92.ext K_121
          replace ho_90 := ho_90.ext K_121
          replace ho_110 := ho_110.ext K_121
          replace K0 := K0.ext K_121
          refine RL.gval (wantedF rfl rfl rfl rfl) (fun hg => (x_moveM rfl)) ?_
          refine RL.gval (wantedF rfl rfl rfl rfl) (fun hg => (x_lenMap Try.underlying53 (gvr hg) hO_47)) ?_
          refine RL.gval (wantedF rfl rfl rfl rfl) (fun hg => (x_moveSl rfl)) ?_
          refine RL.gval (wantedF rfl rfl rfl rfl) (fun hg => (x_lenSl Try.underlying22 (gvr hg))) ?_
          refine RL.gval (wantedF rfl rfl rfl rfl) (fun hg => (x_eqI (gvr hg) (gvr hg))) ?_
          refine RL.gval (wantedF rfl rfl rfl rfl) (fun hg => (x_neB Try.underlying4 (gvr hg) (gvr hg))) ?_
          refine RL.val (x_or rfl rfl rfl) ?_
          refine RL.val (x_moveB rfl) ?_
          refine RL.gval (wantedF rfl rfl rfl rfl) (fun hg => (x_moveP rfl)) ?_
          refine RL.gcall (vals := [.pointer (some ⟨s_8, 0, none⟩), .int .i64 (5), .int .i64 (4)]) (wantedF rfl rfl rfl rfl) en17 (fun hg => (mcons (gvr hg) (mcons rfl (mcons rfl mnil)))) (fun hg => (dn_left hS_92)) ?_
          intro w_122 K_123
          replace ho_4 := ho_4.ext K_123
          replace ho_19 := ho_19.ext K_123
          replace hO_47 := hO_47.ext K_123
          replace hS_92 := hS_92.ext K_123
          replace ho_90 := ho_90.ext K_123
          replace ho_110 := ho_110.ext K_123
          replace K0 := K0.ext K_123
          refine RL.gval (wantedF rfl rfl rfl rfl) (fun hg => (x_moveSl rfl)) ?_
          refine RL.gval (wantedF rfl rfl rfl rfl) (fun hg => (x_lenSl Try.underlying22 (gvr hg))) ?_
          refine RL.gval (wantedF rfl rfl rfl rfl) (fun hg => (x_moveM rfl)) ?_
          refine RL.gval (wantedF rfl rfl rfl rfl) (fun hg => (x_lenMap Try.underlying53 (gvr hg) hO_47)) ?_
          refine RL.gval (wantedF rfl rfl rfl rfl) (fun hg => (x_sub (gvr hg) (gvr hg) (by omega) (by omega))) ?_
          refine RL.gval (wantedF rfl rfl rfl rfl) (fun hg => (x_neI (gvr hg) (gvr hg))) ?_
          refine RL.val (x_or rfl rfl rfl) ?_
          refine RL.nil ?_
          refine Run.cond rfl (fun hc93 => ?_) (fun hc93 => ?_)
          · try simp only [br] at hc93
            exact absurd hc93 (fun h => h.elim (fun h => h.elim (fun h => by omega) (fun h => h (done_fin2 (by omega)))) (fun h => by omega))
          · try simp only [br] at hc93
            refine Run.skip ?_
            refine Run.seq ?_
            refine Run.seq ?_
            refine Run.region ?_
            refine RL.val (x_moveSl rfl) ?_
            refine RL.val (x_lenSl Try.underlying31 rfl) ?_
            refine RL.val (x_eqI rfl rfl) ?_
            refine RL.nil ?_
            refine Run.cond rfl (fun hc96 => ?_) (fun hc96 => ?_)
            · try simp only [br] at hc96
              refine Run.exit rfl ?_
              refine Run.region ?_
              refine RL.val (litI (c := ((i + 1 : Nat) : Int)) (x_add rfl rfl (by omega) (by omega)) rfl) ?_
              refine RL.val (x_moveI rfl) ?_
              refine RL.nil ?_
              have hTA := htd.app hT_80
              have hND : (keysI xs_78).Nodup := by rw [hxk_82]; exact hnd
              have hDJ : ∀ a ∈ aks, a ∉ keysI xs_78 := by rw [hxk_82]; exact hdj
              refine ih1 (i + 1) _ _ ?_ (by omega)
              refine ⟨xs_78, r_79, now + d0, F_88, aks, td ++ T_77, _, _, ⟨rfl, rfl, rfl, rfl, rfl, rfl, rfl, rfl, rfl, trivial⟩, K0, ho_4, ho_19, hS_92, hO_47, ho_110, pr_102, pr_103, pr_104, (fun q_ h1 h2 => pr_117 q_ h2 h1), pg_106, pr_54, pr_55, (fun q_ h1 h2 => pr_116 q_ h2 h1), pr_57, pr_114, pr_115, pg_119, ?_, ?_, ?_, ?_, ?_, ?_, ?_, ?_, ?_⟩
              · omega
              · omega
              · omega
              · omega
              · exact hTA
              · simp only [List.length_append, List.length_nil] at *; omega
              · simp only [List.length_append, List.length_singleton] at *; omega
              · exact hND
              · exact hDJ
            · try simp only [br] at hc96
              refine Run.skip ?_
              refine Run.seq ?_
              have hkv := hU k (mem_of_at hk)
              obtain ⟨hwz, d, hd, hdl⟩ := dn_mod k.v hkv.1 ((td ++ T_77).length) (by omega) (by omega)
              refine Run.region ?_
              refine RL.val (x_moveSl rfl) ?_
              refine RL.val (x_moveI rfl) ?_
              refine RL.val (x_moveSl rfl) ?_
              refine RL.val (x_lenSl Try.underlying31 rfl) ?_
              refine RL.val (x_convI rfl ⟨_, Try.underlying3⟩ Try.underlying30) ?_
              refine RL.val (litI (c := (d : Int)) (x_rem rfl rfl hwz) hd) ?_
              obtain ⟨b_124, o_125, x, hx, ha_126, hc_127⟩ := ho_110.sl.el (i := d) (by first | omega | (simp only [List.length_set]; omega))
              refine RL.val (x_idxN Try.underlying31 ty46 rfl rfl ha_126 (by first | omega | (simp only [List.length_set]; omega))) ?_
              refine RL.val (x_ldV (v := .agg #[.int .i64 ((x).kind), .int .i64 ((x).frm), .int .i64 ((x).to), .int .i64 ((x).req), .string ((x).key), .slice (none) (0) (0), .slice (none) (0) (0), .slice (none) (0) (0), .int .i64 (0), .int .i64 ((x).part), .int .i64 (0), .int .i64 (0), .int .i64 (0), .int .i64 (0), .slice (none) (0) (0), .slice (none) (0) (0), .slice (none) (0) (0)]) (y := x) ty46 rfl hc_127 rfl) ?_
              refine RL.st rfl <| St1.alloc ty46 ?_
              intro b_130 w_131 hl_134 hb_133 K_132
              replace hb_133 : Blk w_131 b_130 [.int .i64 (0), .int .i64 (0), .int .i64 (0), .int .i64 (0), .string (⟨#[]⟩), .slice (none) (0) (0), .slice (none) (0) (0), .slice (none) (0) (0), .int .i64 (0), .int .i64 (0), .int .i64 (0), .int .i64 (0), .int .i64 (0), .int .i64 (0), .slice (none) (0) (0), .slice (none) (0) (0), .slice (none) (0) (0)] 46 := hb_133
              have ne_135 : b_124 < b_130 := Nat.lt_of_lt_of_le hc_127.lt hl_134
              have pr_136 : ¬ own a_1 b_130 := fun h => absurd (ho_4.own_lt _ h) (by omega)
              have pr_137 : ¬ own a_16 b_130 := fun h => absurd (ho_19.own_lt _ h) (by omega)
              have pr_138 : ¬ one m_35 b_130 := fun h => absurd (hO_47.own_lt _ h) (by omega)
              have pr_139 : ¬ F_88 b_130 := fun h => absurd (hS_92.own_lt _ h) (by omega)
              have pr_140 : ¬ own a_86 b_130 := fun h => absurd (ho_90.own_lt _ h) (by omega)
              have pr_141 : ¬ own a_107 b_130 := fun h => absurd (ho_110.own_lt _ h) (by omega)
              have : w.heap.size ≤ b_130 := Nat.le_trans K0.size hl_134
              clear hl_134
              replace ho_4 := ho_4.ext K_132
              replace ho_19 := ho_19.ext K_132
              replace hO_47 := hO_47.ext K_132
              replace hS_92 := hS_92.ext K_132
              replace ho_90 := ho_90.ext K_132
              replace ho_110 := ho_110.ext K_132
              replace hc_127 := hc_127.ext K_132
              replace K0 := K0.ext K_132
              refine RL.st rfl <| St1.store (v := .agg #[.int .i64 ((x).kind), .int .i64 ((x).frm), .int .i64 ((x).to), .int .i64 ((x).req), .string ((x).key), .slice (none) (0) (0), .slice (none) (0) (0), .slice (none) (0) (0), .int .i64 (0), .int .i64 ((x).part), .int .i64 (0), .int .i64 (0), .int .i64 (0), .int .i64 (0), .slice (none) (0) (0), .slice (none) (0) (0), .slice (none) (0) (0)]) ty46 rfl rfl rfl (by simp [Value.cells, Value.oneCell']) hb_133 (by simp) ?_
              intro w_142 hb_133_ K_143
              have hb_133' : Blk w_142 b_130 [.int .i64 ((x).kind), .int .i64 ((x).frm), .int .i64 ((x).to), .int .i64 ((x).req), .string ((x).key), .slice (none) (0) (0), .slice (none) (0) (0), .slice (none) (0) (0), .int .i64 (0), .int .i64 ((x).part), .int .i64 (0), .int .i64 (0), .int .i64 (0), .int .i64 (0), .slice (none) (0) (0), .slice (none) (0) (0), .slice (none) (0) (0)] 46 := hb_133_
              clear hb_133_
              replace ho_4 := ho_4.keepO K_143 (fun q_ hq_ eq_ => pr_136 (by simp only [one] at eq_; rw [← eq_]; exact hq_))
              replace ho_19 := ho_19.keepO K_143 (fun q_ hq_ eq_ => pr_137 (by simp only [one] at eq_; rw [← eq_]; exact hq_))
              replace hO_47 := hO_47.keepO K_143 (fun q_ hq_ eq_ => pr_138 (by simp only [one] at eq_; rw [← eq_]; exact hq_))
              replace hS_92 := hS_92.keepO K_143 (fun q_ hq_ eq_ => pr_139 (by simp only [one] at eq_; rw [← eq_]; exact hq_))
              replace ho_90 := ho_90.keepO K_143 (fun q_ hq_ eq_ => pr_140 (by simp only [one] at eq_; rw [← eq_]; exact hq_))
              replace ho_110 := ho_110.keepO K_143 (fun q_ hq_ eq_ => pr_141 (by simp only [one] at eq_; rw [← eq_]; exact hq_))
              replace hc_127 := hc_127.keep K_143 (fun e => pr_141 (by simp only [one] at e; rw [← e]; exact (own_sub _) _ ha_126))
              replace K0 := K0.new K_143 (fun x hx => by simp only [one] at hx; omega)
              replace hb_133 := hb_133'
              clear hb_133'
              refine RL.nil ?_
              refine Run.seq ?_
              refine Run.region ?_
              refine RL.val (x_moveP rfl) ?_
              refine RL.st rfl <| St1.call (vals := [.pointer (some ⟨s_8, 0, none⟩), .int .i64 (5), .int .i64 (4)]) en17 rfl (dn_left hS_92) ?_
              rintro _ w_144 ⟨rfl, K_145⟩
              replace ho_4 := ho_4.ext K_145
              replace ho_19 := ho_19.ext K_145
              replace hO_47 := hO_47.ext K_145
              replace hS_92 := hS_92.ext K_145
              replace ho_90 := ho_90.ext K_145
              replace ho_110 := ho_110.ext K_145
              replace hb_133 := hb_133.ext K_145
              replace K0 := K0.ext K_145
              refine RL.val (x_assignI rfl) ?_
              refine RL.nil ?_
              refine Run.seq ?_
              refine Run.region ?_
              refine RL.val (x_moveP rfl) ?_
              refine RL.val (x_lds (cs := #[.int .i64 ((x).kind), .int .i64 ((x).frm), .int .i64 ((x).to), .int .i64 ((x).req), .string ((x).key), .slice (none) (0) (0), .slice (none) (0) (0), .slice (none) (0) (0), .int .i64 (0), .int .i64 ((x).part), .int .i64 (0), .int .i64 (0), .int .i64 (0), .int .i64 (0), .slice (none) (0) (0), .slice (none) (0) (0), .slice (none) (0) (0)]) ty46 rfl rfl (hb_133.cl.drop 0 17)) ?_
              refine RL.st rfl <| St1.call (vals := [.agg #[.int .i64 ((x).kind), .int .i64 ((x).frm), .int .i64 ((x).to), .int .i64 ((x).req), .string ((x).key), .slice (none) (0) (0), .slice (none) (0) (0), .slice (none) (0) (0), .int .i64 (0), .int .i64 ((x).part), .int .i64 (0), .int .i64 (0), .int .i64 (0), .int .i64 (0), .slice (none) (0) (0), .slice (none) (0) (0), .slice (none) (0) (0)]]) en16 rfl (handed_ x _) ?_
              rintro _ w_146 ⟨rfl, K_147⟩
              replace ho_4 := ho_4.ext K_147
              replace ho_19 := ho_19.ext K_147
              replace hO_47 := hO_47.ext K_147
              replace hS_92 := hS_92.ext K_147
              replace ho_90 := ho_90.ext K_147
              replace ho_110 := ho_110.ext K_147
              replace hb_133 := hb_133.ext K_147
              replace K0 := K0.ext K_147
              refine RL.val (x_moveI rfl) ?_
              refine RL.st rfl <| St1.call (vals := [.pointer (some ⟨s_8, 0, none⟩), .agg #[.int .i64 (((handedM x)).kind), .int .i64 (((handedM x)).frm), .int .i64 (((handedM x)).to), .int .i64 (((handedM x)).req), .string (((handedM x)).key), .slice (none) (0) (0), .slice (none) (0) (0), .slice (none) (0) (0), .int .i64 (0), .int .i64 (((handedM x)).part), .int .i64 (0), .int .i64 (0), .int .i64 (0), .int .i64 (0), .slice (none) (0) (0), .slice (none) (0) (0), .slice (none) (0) (0)], .int .i64 (now + d0)]) en15 rfl (dn_on hS_92 x (now + d0) ((htd.app hT_80) x (mem_of_at hx)) (by omega) (by omega) (by omega)) ?_
              rintro _ w_164 ⟨T_148, xs_149, r_150, hT_151, hTl_152, hra_153, hrb_154, (⟨hxk_155, hxl_156⟩ | ⟨j_157, hjl_158, hjd_159, hjk_160, hxl_156⟩), a_161, c_162, F_163, rfl, ho_165, hg_166, hS_167, hm_168, hap_169, K_170⟩
              · have pr_171 : ∀ q_, own a_161 q_ → ¬ own a_1 q_ := apartNew hg_166 ho_4.own_lt
                have pr_172 : ∀ q_, own a_161 q_ → ¬ own a_16 q_ := apartNew hg_166 ho_19.own_lt
                have pr_173 : ∀ q_, own a_161 q_ → ¬ one m_35 q_ := apartNew hg_166 hO_47.own_lt
                have pr_174 : ∀ q_, own a_161 q_ → ¬ F_88 q_ := apartNew hg_166 hS_92.own_lt
                have pr_175 : ∀ q_, own a_161 q_ → ¬ own a_86 q_ := apartNew hg_166 ho_90.own_lt
                have pr_176 : ∀ q_, own a_161 q_ → ¬ own a_107 q_ := apartNew hg_166 ho_110.own_lt
                have pr_177 : ¬ own a_161 b_130 := notNew hg_166 hb_133.lt
                have pg_178 : ∀ q_, own a_161 q_ → w.heap.size ≤ q_ := fun q_ h => Nat.le_trans K0.size (hg_166 q_ h)
                clear hg_166
                have pr_179 : ∀ q_, F_163 q_ → ¬ own a_1 q_ := hm_168.apart pr_102 ho_4.own_lt
                have pr_180 : ∀ q_, F_163 q_ → ¬ own a_16 q_ := hm_168.apart pr_103 ho_19.own_lt
                have pr_181 : ∀ q_, F_163 q_ → ¬ one m_35 q_ := hm_168.apart pr_104 hO_47.own_lt
                have pr_182 : ∀ q_, F_163 q_ → ¬ own a_86 q_ := hm_168.apart (fun q_ h1 h2 => hap_94 q_ h2 h1) ho_90.own_lt
                have pr_183 : ∀ q_, F_163 q_ → ¬ own a_107 q_ := hm_168.apart (fun q_ h1 h2 => pr_117 q_ h2 h1) ho_110.own_lt
                have pr_184 : ¬ F_163 b_130 := hm_168.not pr_139 hb_133.lt
                have pg_185 : ∀ q_, F_163 q_ → w.heap.size ≤ q_ := hm_168.ge pg_106 K0.size
                replace ho_4 := ho_4.keepO K_170 (fun q_ h1 h2 => pr_102 q_ h2 h1)
                replace ho_19 := ho_19.keepO K_170 (fun q_ h1 h2 => pr_103 q_ h2 h1)
                replace hO_47 := hO_47.keepO K_170 (fun q_ h1 h2 => pr_104 q_ h2 h1)
                replace ho_90 := ho_90.keepO K_170 hap_94
                replace ho_110 := ho_110.keepO K_170 pr_117
                replace hb_133 := hb_133.keep K_170 pr_139
                replace K0 := K0.new K_170 pg_106
                clear hm_168
                refine RL.val (x_assignSl rfl) ?_
                refine RL.nil ?_
                refine Run.seq ?_
                refine Run.region ?_
                refine RL.val (x_moveSl rfl) ?_
                refine RL.val (x_moveSl rfl) ?_
                refine RL.st rfl <| St1.append (xs := td ++ T_77) (ys := T_148) Try.underlying31 ty46 rfl rfl rfl ho_110 ho_165.sl (by first | omega | (simp only [lr]; omega)) (by decide) ?_
                intro a_186 c_187 w_188 ho_189 K_190 hm_191 hrm_192
                have pr_193 : ∀ q_, own a_186 q_ → ¬ own a_1 q_ := hm_191.apart pr_114 ho_4.own_lt
                have pr_194 : ∀ q_, own a_186 q_ → ¬ own a_16 q_ := hm_191.apart pr_115 ho_19.own_lt
                have pr_195 : ∀ q_, own a_186 q_ → ¬ one m_35 q_ := hm_191.apart pr_116 hO_47.own_lt
                have pr_196 : ∀ q_, own a_186 q_ → ¬ own a_86 q_ := hm_191.apart pr_118 ho_90.own_lt
                have pr_197 : ¬ own a_186 b_130 := hm_191.not pr_141 hb_133.lt
                have pr_198 : ∀ q_, own a_186 q_ → ¬ F_163 q_ := hm_191.apart (fun q_ h1 h2 => pr_183 q_ h2 h1) hS_167.own_lt
                have pr_199 : ∀ q_, own a_186 q_ → ¬ own a_161 q_ := hm_191.apart (fun q_ h1 h2 => pr_176 q_ h2 h1) ho_165.own_lt
                have pg_200 : ∀ q_, own a_186 q_ → w.heap.size ≤ q_ := hm_191.ge pg_119 K0.size
                replace ho_4 := ho_4.keepO K_190 (fun q_ h1 h2 => pr_114 q_ h2 h1)
                replace ho_19 := ho_19.keepO K_190 (fun q_ h1 h2 => pr_115 q_ h2 h1)
                replace hO_47 := hO_47.keepO K_190 (fun q_ h1 h2 => pr_116 q_ h2 h1)
                replace ho_90 := ho_90.keepO K_190 (fun q_ h1 h2 => pr_118 q_ h2 h1)
                replace hb_133 := hb_133.keep K_190 pr_141
                replace hS_167 := hS_167.keepO K_190 pr_183
                replace ho_165 := ho_165.keepO K_190 pr_176
                replace K0 := K0.new K_190 pg_119
                clear hm_191
                clear hrm_192
                refine RL.val (x_assignSl rfl) ?_
                refine RL.nil ?_
                refine Run.seq ?_
                refine Run.seq ?_
                refine Run.region ?_
                refine RL.val (x_moveP rfl) ?_
                refine RL.st rfl <| St1.call (vals := [.pointer (some ⟨s_8, 0, none⟩), .int .i64 (5), .int .i64 (4)]) en17 rfl (dn_left hS_167) ?_
                rintro _ w_201 ⟨rfl, K_202⟩
                replace ho_4 := ho_4.ext K_202
                replace ho_19 := ho_19.ext K_202
                replace hO_47 := hO_47.ext K_202
                replace ho_90 := ho_90.ext K_202
                replace hb_133 := hb_133.ext K_202
                replace hS_167 := hS_167.ext K_202
                replace ho_165 := ho_165.ext K_202
                replace ho_189 := ho_189.ext K_202
                replace K0 := K0.ext K_202
                refine RL.val (x_moveI rfl) ?_
                refine RL.val (x_ltI rfl rfl) ?_
                refine RL.nil ?_
                refine Run.cond rfl (fun hc118 => ?_) (fun hc118 => ?_)
                · try simp only [br] at hc118
                  exact absurd hc118 (by omega)
                · try simp only [br] at hc118
                  refine Run.skip ?_
                  refine Run.seq ?_
                  refine Run.region ?_
                  refine RL.val (x_moveSl rfl) ?_
                  refine RL.val (x_lenSl Try.underlying31 rfl) ?_
                  refine RL.val (x_gtI rfl rfl) ?_
                  refine RL.val (x_moveB rfl) ?_
                  refine RL.gval (wantedF rfl rfl rfl rfl) (fun hg => (x_moveP rfl)) ?_
                  refine RL.gcall (vals := [.pointer (some ⟨s_8, 0, none⟩), .int .i64 (5), .int .i64 (4)]) (wantedF rfl rfl rfl rfl) en17 (fun hg => (mcons (gvr hg) (mcons rfl (mcons rfl mnil)))) (fun hg => (dn_left hS_167)) ?_
                  intro w_203 K_204
                  replace ho_4 := ho_4.ext K_204
                  replace ho_19 := ho_19.ext K_204
                  replace hO_47 := hO_47.ext K_204
                  replace ho_90 := ho_90.ext K_204
                  replace hb_133 := hb_133.ext K_204
                  replace hS_167 := hS_167.ext K_204
                  replace ho_165 := ho_165.ext K_204
                  replace ho_189 := ho_189.ext K_204
                  replace K0 := K0.ext K_204
                  refine RL.gval (wantedF rfl rfl rfl rfl) (fun hg => (x_moveI rfl)) ?_
                  refine RL.gval (wantedF rfl rfl rfl rfl) (fun hg => (x_sub (gvr hg) rfl (by omega) (by omega))) ?_
                  refine RL.gval (wantedF rfl rfl rfl rfl) (fun hg => (x_ltI (gvr hg) (gvr hg))) ?_
                  refine RL.val (x_or rfl rfl rfl) ?_
                  refine RL.nil ?_
                  refine Run.cond rfl (fun hc131 => ?_) (fun hc131 => ?_)
                  · try simp only [br] at hc131
                    exact absurd hc131 (by omega)
                  · try simp only [br] at hc131
                    refine Run.skip ?_
                    refine Run.inBlock ?_
                    refine Run.region ?_
                    refine RL.val (litI (c := ((i + 1 : Nat) : Int)) (x_add rfl rfl (by omega) (by omega)) rfl) ?_
                    refine RL.val (x_moveI rfl) ?_
                    refine RL.nil ?_
                    have hTA := (htd.app hT_80).app hT_151
                    have hND : (keysI xs_149).Nodup := by rw [hxk_155, hxk_82]; exact hnd
                    have hDJ : ∀ a ∈ aks, a ∉ keysI xs_149 := by rw [hxk_155, hxk_82]; exact hdj
                    refine ih1 (i + 1) _ _ ?_ (by omega)
                    refine ⟨xs_149, r_150, now + d0, F_163, aks, (td ++ T_77) ++ T_148, _, _, ⟨rfl, rfl, rfl, rfl, rfl, rfl, rfl, rfl, rfl, trivial⟩, K0, ho_4, ho_19, hS_167, hO_47, ho_189, pr_179, pr_180, pr_181, (fun q_ h1 h2 => pr_198 q_ h2 h1), pg_185, pr_54, pr_55, (fun q_ h1 h2 => pr_195 q_ h2 h1), pr_57, pr_193, pr_194, pg_200, ?_, ?_, ?_, ?_, ?_, ?_, ?_, ?_, ?_⟩
                    · omega
                    · omega
                    · omega
                    · omega
                    · exact hTA
                    · simp only [List.length_append, List.length_nil] at *; omega
                    · simp only [List.length_append, List.length_singleton] at *; omega
                    · exact hND
                    · exact hDJ
              · have pr_205 : ∀ q_, own a_161 q_ → ¬ own a_1 q_ := apartNew hg_166 ho_4.own_lt
                have pr_206 : ∀ q_, own a_161 q_ → ¬ own a_16 q_ := apartNew hg_166 ho_19.own_lt
                have pr_207 : ∀ q_, own a_161 q_ → ¬ one m_35 q_ := apartNew hg_166 hO_47.own_lt
                have pr_208 : ∀ q_, own a_161 q_ → ¬ F_88 q_ := apartNew hg_166 hS_92.own_lt
                have pr_209 : ∀ q_, own a_161 q_ → ¬ own a_86 q_ := apartNew hg_166 ho_90.own_lt
                have pr_210 : ∀ q_, own a_161 q_ → ¬ own a_107 q_ := apartNew hg_166 ho_110.own_lt
                have pr_211 : ¬ own a_161 b_130 := notNew hg_166 hb_133.lt
                have pg_212 : ∀ q_, own a_161 q_ → w.heap.size ≤ q_ := fun q_ h => Nat.le_trans K0.size (hg_166 q_ h)
                clear hg_166
                have pr_213 : ∀ q_, F_163 q_ → ¬ own a_1 q_ := hm_168.apart pr_102 ho_4.own_lt
                have pr_214 : ∀ q_, F_163 q_ → ¬ own a_16 q_ := hm_168.apart pr_103 ho_19.own_lt
                have pr_215 : ∀ q_, F_163 q_ → ¬ one m_35 q_ := hm_168.apart pr_104 hO_47.own_lt
                have pr_216 : ∀ q_, F_163 q_ → ¬ own a_86 q_ := hm_168.apart (fun q_ h1 h2 => hap_94 q_ h2 h1) ho_90.own_lt
                have pr_217 : ∀ q_, F_163 q_ → ¬ own a_107 q_ := hm_168.apart (fun q_ h1 h2 => pr_117 q_ h2 h1) ho_110.own_lt
                have pr_218 : ¬ F_163 b_130 := hm_168.not pr_139 hb_133.lt
                have pg_219 : ∀ q_, F_163 q_ → w.heap.size ≤ q_ := hm_168.ge pg_106 K0.size
                replace ho_4 := ho_4.keepO K_170 (fun q_ h1 h2 => pr_102 q_ h2 h1)
                replace ho_19 := ho_19.keepO K_170 (fun q_ h1 h2 => pr_103 q_ h2 h1)
                replace hO_47 := hO_47.keepO K_170 (fun q_ h1 h2 => pr_104 q_ h2 h1)
                replace ho_90 := ho_90.keepO K_170 hap_94
                replace ho_110 := ho_110.keepO K_170 pr_117
                replace hb_133 := hb_133.keep K_170 pr_139
                replace K0 := K0.new K_170 pg_106
                clear hm_168
                refine RL.val (x_assignSl rfl) ?_
                refine RL.nil ?_
                refine Run.seq ?_
                refine Run.region ?_
                refine RL.val (x_moveSl rfl) ?_
                refine RL.val (x_moveSl rfl) ?_
                refine RL.st rfl <| St1.append (xs := td ++ T_77) (ys := T_148) Try.underlying31 ty46 rfl rfl rfl ho_110 ho_165.sl (by first | omega | (simp only [lr]; omega)) (by decide) ?_
                intro a_220 c_221 w_222 ho_223 K_224 hm_225 hrm_226
                have pr_227 : ∀ q_, own a_220 q_ → ¬ own a_1 q_ := hm_225.apart pr_114 ho_4.own_lt
                have pr_228 : ∀ q_, own a_220 q_ → ¬ own a_16 q_ := hm_225.apart pr_115 ho_19.own_lt
                have pr_229 : ∀ q_, own a_220 q_ → ¬ one m_35 q_ := hm_225.apart pr_116 hO_47.own_lt
                have pr_230 : ∀ q_, own a_220 q_ → ¬ own a_86 q_ := hm_225.apart pr_118 ho_90.own_lt
                have pr_231 : ¬ own a_220 b_130 := hm_225.not pr_141 hb_133.lt
                have pr_232 : ∀ q_, own a_220 q_ → ¬ F_163 q_ := hm_225.apart (fun q_ h1 h2 => pr_217 q_ h2 h1) hS_167.own_lt
                have pr_233 : ∀ q_, own a_220 q_ → ¬ own a_161 q_ := hm_225.apart (fun q_ h1 h2 => pr_210 q_ h2 h1) ho_165.own_lt
                have pg_234 : ∀ q_, own a_220 q_ → w.heap.size ≤ q_ := hm_225.ge pg_119 K0.size
                replace ho_4 := ho_4.keepO K_224 (fun q_ h1 h2 => pr_114 q_ h2 h1)
                replace ho_19 := ho_19.keepO K_224 (fun q_ h1 h2 => pr_115 q_ h2 h1)
                replace hO_47 := hO_47.keepO K_224 (fun q_ h1 h2 => pr_116 q_ h2 h1)
                replace ho_90 := ho_90.keepO K_224 (fun q_ h1 h2 => pr_118 q_ h2 h1)
                replace hb_133 := hb_133.keep K_224 pr_141
                replace hS_167 := hS_167.keepO K_224 pr_217
                replace ho_165 := ho_165.keepO K_224 pr_210
                replace K0 := K0.new K_224 pg_119
                clear hm_225
                clear hrm_226
                refine RL.val (x_assignSl rfl) ?_
                refine RL.nil ?_
                refine Run.seq ?_
                refine Run.seq ?_
                refine Run.region ?_
                refine RL.val (x_moveP rfl) ?_
                refine RL.st rfl <| St1.call (vals := [.pointer (some ⟨s_8, 0, none⟩), .int .i64 (5), .int .i64 (4)]) en17 rfl (dn_left hS_167) ?_
                rintro _ w_235 ⟨rfl, K_236⟩
                replace ho_4 := ho_4.ext K_236
                replace ho_19 := ho_19.ext K_236
                replace hO_47 := hO_47.ext K_236
                replace ho_90 := ho_90.ext K_236
                replace hb_133 := hb_133.ext K_236
                replace hS_167 := hS_167.ext K_236
                replace ho_165 := ho_165.ext K_236
                replace ho_223 := ho_223.ext K_236
                replace K0 := K0.ext K_236
                refine RL.val (x_moveI rfl) ?_
                refine RL.val (x_ltI rfl rfl) ?_
                refine RL.nil ?_
                refine Run.cond rfl (fun hc118 => ?_) (fun hc118 => ?_)
                · try simp only [br] at hc118
                  refine Run.region ?_
                  refine RL.val (x_moveM rfl) ?_
                  refine RL.val (x_fld (o' := 4) Try.underlying46 rfl ty9 rfl rfl rfl) ?_
                  refine RL.val (x_ld (v := .string ((x).key)) ty9 rfl rfl (hb_133.cl.field (i := 4) rfl)) ?_
                  refine RL.st rfl <| St1.mapUpdate (v := .bool (true)) Try.underlying53 Try.underlying9 rfl rfl rfl rfl hO_47 ?_
                  intro w_237 hM_238 K_239
                  have hjk' := hjk_160
                  rw [hxk_82] at hjk'
                  have hnk : x.key ∉ aks := fun h => hdj _ h (List.mem_of_getElem? hjk')
                  replace hM_238 : MapAt w_237 m_35 (akE (aks ++ [x.key])) := (akE_put hnk ▸ hM_238)
                  replace ho_4 := ho_4.keepO K_239 (fun q_ h1 h2 => pr_54 q_ h2 h1)
                  replace ho_19 := ho_19.keepO K_239 (fun q_ h1 h2 => pr_55 q_ h2 h1)
                  replace ho_90 := ho_90.keepO K_239 pr_99
                  replace hb_133 := hb_133.keep K_239 pr_138
                  replace hS_167 := hS_167.keepO K_239 pr_215
                  replace ho_165 := ho_165.keepO K_239 pr_207
                  replace ho_223 := ho_223.keepO K_239 pr_229
                  replace K0 := K0.new K_239 pr_57
                  replace hO_47 := hM_238
                  clear hM_238
                  refine RL.nil ?_
                  refine Run.seq ?_
                  refine Run.region ?_
                  refine RL.val (x_moveSl rfl) ?_
                  refine RL.val (x_lenSl Try.underlying31 rfl) ?_
                  refine RL.val (x_gtI rfl rfl) ?_
                  refine RL.val (x_moveB rfl) ?_
                  refine RL.gval (wantedF rfl rfl rfl rfl) (fun hg => (x_moveP rfl)) ?_
                  refine RL.gcall (vals := [.pointer (some ⟨s_8, 0, none⟩), .int .i64 (5), .int .i64 (4)]) (wantedF rfl rfl rfl rfl) en17 (fun hg => (mcons (gvr hg) (mcons rfl (mcons rfl mnil)))) (fun hg => (dn_left hS_167)) ?_
                  intro w_240 K_241
                  replace ho_4 := ho_4.ext K_241
                  replace ho_19 := ho_19.ext K_241
                  replace hO_47 := hO_47.ext K_241
                  replace ho_90 := ho_90.ext K_241
                  replace hb_133 := hb_133.ext K_241
                  replace hS_167 := hS_167.ext K_241
                  replace ho_165 := ho_165.ext K_241
                  replace ho_223 := ho_223.ext K_241
                  replace K0 := K0.ext K_241
                  refine RL.gval (wantedF rfl rfl rfl rfl) (fun hg => (x_moveI rfl)) ?_
                  refine RL.gval (wantedF rfl rfl rfl rfl) (fun hg => (x_sub (gvr hg) rfl (by omega) (by omega))) ?_
                  refine RL.gval (wantedF rfl rfl rfl rfl) (fun hg => (x_ltI (gvr hg) (gvr hg))) ?_
                  refine RL.val (x_or rfl rfl rfl) ?_
                  refine RL.nil ?_
                  refine Run.cond rfl (fun hc131 => ?_) (fun hc131 => ?_)
                  · try simp only [br] at hc131
                    exact absurd hc131 (by omega)
                  · try simp only [br] at hc131
                    refine Run.skip ?_
                    refine Run.inBlock ?_
                    refine Run.region ?_
                    refine RL.val (litI (c := ((i + 1 : Nat) : Int)) (x_add rfl rfl (by omega) (by omega)) rfl) ?_
                    refine RL.val (x_moveI rfl) ?_
                    refine RL.nil ?_
                    have hTA := (htd.app hT_80).app hT_151
                    have hND : (keysI xs_149).Nodup := by rw [hjd_159, hxk_82]; exact (dn_del hnd hdj hjk').1
                    have hDJ : ∀ a ∈ (aks ++ [x.key]), a ∉ keysI xs_149 := by rw [hjd_159, hxk_82]; exact (dn_del hnd hdj hjk').2
                    refine ih1 (i + 1) _ _ ?_ (by omega)
                    refine ⟨xs_149, r_150, now + d0, F_163, (aks ++ [x.key]), (td ++ T_77) ++ T_148, _, _, ⟨rfl, rfl, rfl, rfl, rfl, rfl, rfl, rfl, rfl, trivial⟩, K0, ho_4, ho_19, hS_167, hO_47, ho_223, pr_213, pr_214, pr_215, (fun q_ h1 h2 => pr_232 q_ h2 h1), pg_219, pr_54, pr_55, (fun q_ h1 h2 => pr_229 q_ h2 h1), pr_57, pr_227, pr_228, pg_234, ?_, ?_, ?_, ?_, ?_, ?_, ?_, ?_, ?_⟩
                    · omega
                    · omega
                    · omega
                    · omega
                    · exact hTA
                    · simp only [List.length_append, List.length_nil] at *; omega
                    · simp only [List.length_append, List.length_singleton] at *; omega
                    · exact hND
                    · exact hDJ
                · try simp only [br] at hc118
                  exact absurd hc118 (by omega)
        · try simp only [br] at hc55
          refine Run.skip ?_
          refine Run.seq ?_
          refine Run.region ?_
          refine RL.val (x_moveP rfl) ?_
          refine RL.val (x_moveI rfl) ?_
          refine RL.st rfl <| St1.call (vals := [.pointer (some ⟨s_8, 0, none⟩), .int .i64 (now)]) en14 rfl (dn_tick hO_46 now (by omega) (by omega) (by omega)) ?_
          rintro _ w_254 ⟨T_242, xs_243, r_244, hT_245, hTl_246, hxk_247, hxl_248, hra_249, hrb_250, a_251, c_252, F_253, rfl, ho_255, hg_256, hS_257, hm_258, hap_259, K_260⟩
          have pr_261 : ∀ q_, own a_251 q_ → ¬ own a_1 q_ := apartNew hg_256 ho_4.own_lt
          have pr_262 : ∀ q_, own a_251 q_ → ¬ own a_16 q_ := apartNew hg_256 ho_19.own_lt
          have pr_263 : ∀ q_, own a_251 q_ → ¬ F1 q_ := apartNew hg_256 hO_46.own_lt
          have pr_264 : ∀ q_, own a_251 q_ → ¬ one m_35 q_ := apartNew hg_256 hO_47.own_lt
          have pr_265 : ∀ q_, own a_251 q_ → ¬ own am q_ := apartNew hg_256 ho_48.own_lt
          have pg_266 : ∀ q_, own a_251 q_ → w.heap.size ≤ q_ := fun q_ h => Nat.le_trans K0.size (hg_256 q_ h)
          clear hg_256
          have pr_267 : ∀ q_, F_253 q_ → ¬ own a_1 q_ := hm_258.apart pr_49 ho_4.own_lt
          have pr_268 : ∀ q_, F_253 q_ → ¬ own a_16 q_ := hm_258.apart pr_50 ho_19.own_lt
          have pr_269 : ∀ q_, F_253 q_ → ¬ one m_35 q_ := hm_258.apart pr_51 hO_47.own_lt
          have pr_270 : ∀ q_, F_253 q_ → ¬ own am q_ := hm_258.apart pr_52 ho_48.own_lt
          have pg_271 : ∀ q_, F_253 q_ → w.heap.size ≤ q_ := hm_258.ge pr_53 K0.size
          replace ho_4 := ho_4.keepO K_260 (fun q_ h1 h2 => pr_49 q_ h2 h1)
          replace ho_19 := ho_19.keepO K_260 (fun q_ h1 h2 => pr_50 q_ h2 h1)
          replace hO_47 := hO_47.keepO K_260 (fun q_ h1 h2 => pr_51 q_ h2 h1)
          replace ho_48 := ho_48.keepO K_260 (fun q_ h1 h2 => pr_52 q_ h2 h1)
          replace K0 := K0.new K_260 pr_53
          clear hm_258
          refine RL.val (x_assignSl rfl) ?_
          refine RL.nil ?_
          refine Run.seq ?_
          refine Run.region ?_
          refine RL.val (x_moveSl rfl) ?_
          refine RL.val (x_moveSl rfl) ?_
          refine RL.st rfl <| St1.append (xs := td) (ys := T_242) Try.underlying31 ty46 rfl rfl rfl ho_48 ho_255.sl (by first | omega | (simp only [lr]; omega)) (by decide) ?_
          intro a_272 c_273 w_274 ho_275 K_276 hm_277 hrm_278
          have pr_279 : ∀ q_, own a_272 q_ → ¬ own a_1 q_ := hm_277.apart pr_58 ho_4.own_lt
          have pr_280 : ∀ q_, own a_272 q_ → ¬ own a_16 q_ := hm_277.apart pr_59 ho_19.own_lt
          have pr_281 : ∀ q_, own a_272 q_ → ¬ one m_35 q_ := hm_277.apart (fun q_ h1 h2 => pr_56 q_ h2 h1) hO_47.own_lt
          have pr_282 : ∀ q_, own a_272 q_ → ¬ F_253 q_ := hm_277.apart (fun q_ h1 h2 => pr_270 q_ h2 h1) hS_257.own_lt
          have pr_283 : ∀ q_, own a_272 q_ → ¬ own a_251 q_ := hm_277.apart (fun q_ h1 h2 => pr_265 q_ h2 h1) ho_255.own_lt
          have pg_284 : ∀ q_, own a_272 q_ → w.heap.size ≤ q_ := hm_277.ge pr_60 K0.size
          replace ho_4 := ho_4.keepO K_276 (fun q_ h1 h2 => pr_58 q_ h2 h1)
          replace ho_19 := ho_19.keepO K_276 (fun q_ h1 h2 => pr_59 q_ h2 h1)
          replace hO_47 := hO_47.keepO K_276 pr_56
          replace hS_257 := hS_257.keepO K_276 pr_270
          replace ho_255 := ho_255.keepO K_276 pr_265
          replace K0 := K0.new K_276 pr_60
          clear hm_277
          clear hrm_278
          refine RL.val (x_assignSl rfl) ?_
          refine RL.nil ?_
          refine Run.seq ?_
          refine Run.seq ?_
          have hal := akE_len aks
          have htdl : (td ++ T_242).length = td.length + (T_242).length := List.length_append
          refine Run.region ?_
          refine RL.val (x_moveSl rfl) ?_
          refine RL.val (x_lenSl Try.underlying31 rfl) ?_
          refine RL.val (x_gtI rfl rfl) ?_
          refine RL.val (x_moveB rfl) ?_
          refine RL.gval (wantedF rfl rfl rfl rfl) (fun hg => (x_moveP rfl)) ?_
          refine RL.gcall (vals := [.pointer (some ⟨s_8, 0, none⟩), .int .i64 (5), .int .i64 (4)]) (wantedF rfl rfl rfl rfl) en18 (fun hg => (mcons (gvr hg) (mcons rfl (mcons rfl mnil)))) (fun hg => (dn_done hS_257)) ?_
          intro w_285 K_286
          replace ho_4 := ho_4.ext K_286
          replace ho_19 := ho_19.ext K_286
          replace hO_47 := hO_47.ext K_286
          replace hS_257 := hS_257.ext K_286
          replace ho_255 := ho_255.ext K_286
          replace ho_275 := ho_275.ext K_286
          replace K0 := K0.ext K_286
          refine RL.gval (wantedF rfl rfl rfl rfl) (fun hg => (x_moveM rfl)) ?_
          refine RL.gval (wantedF rfl rfl rfl rfl) (fun hg => (x_lenMap Try.underlying53 (gvr hg) hO_47)) ?_
          refine RL.gval (wantedF rfl rfl rfl rfl) (fun hg => (x_moveSl rfl)) ?_
          refine RL.gval (wantedF rfl rfl rfl rfl) (fun hg => (x_lenSl Try.underlying22 (gvr hg))) ?_
          refine RL.gval (wantedF rfl rfl rfl rfl) (fun hg => (x_eqI (gvr hg) (gvr hg))) ?_
          refine RL.gval (wantedF rfl rfl rfl rfl) (fun hg => (x_neB Try.underlying4 (gvr hg) (gvr hg))) ?_
          refine RL.val (x_or rfl rfl rfl) ?_
          refine RL.val (x_moveB rfl) ?_
          refine RL.gval (wantedF rfl rfl rfl rfl) (fun hg => (x_moveP rfl)) ?_
          refine RL.gcall (vals := [.pointer (some ⟨s_8, 0, none⟩), .int .i64 (5), .int .i64 (4)]) (wantedF rfl rfl rfl rfl) en17 (fun hg => (mcons (gvr hg) (mcons rfl (mcons rfl mnil)))) (fun hg => (dn_left hS_257)) ?_
          intro w_287 K_288
          replace ho_4 := ho_4.ext K_288
          replace ho_19 := ho_19.ext K_288
          replace hO_47 := hO_47.ext K_288
          replace hS_257 := hS_257.ext K_288
          replace ho_255 := ho_255.ext K_288
          replace ho_275 := ho_275.ext K_288
          replace K0 := K0.ext K_288
          refine RL.gval (wantedF rfl rfl rfl rfl) (fun hg => (x_moveSl rfl)) ?_
          refine RL.gval (wantedF rfl rfl rfl rfl) (fun hg => (x_lenSl Try.underlying22 (gvr hg))) ?_
          refine RL.gval (wantedF rfl rfl rfl rfl) (fun hg => (x_moveM rfl)) ?_
          refine RL.gval (wantedF rfl rfl rfl rfl) (fun hg => (x_lenMap Try.underlying53 (gvr hg) hO_47)) ?_
          refine RL.gval (wantedF rfl rfl rfl rfl) (fun hg => (x_sub (gvr hg) (gvr hg) (by omega) (by omega))) ?_
          refine RL.gval (wantedF rfl rfl rfl rfl) (fun hg => (x_neI (gvr hg) (gvr hg))) ?_
          refine RL.val (x_or rfl rfl rfl) ?_
          refine RL.nil ?_
          refine Run.cond rfl (fun hc93 => ?_) (fun hc93 => ?_)
          · try simp only [br] at hc93
            exact absurd hc93 (fun h => h.elim (fun h => h.elim (fun h => by omega) (fun h => h (done_fin2 (by omega)))) (fun h => by omega))
          · try simp only [br] at hc93
            refine Run.skip ?_
            refine Run.seq ?_
            refine Run.seq ?_
            refine Run.region ?_
            refine RL.val (x_moveSl rfl) ?_
            refine RL.val (x_lenSl Try.underlying31 rfl) ?_
            refine RL.val (x_eqI rfl rfl) ?_
            refine RL.nil ?_
            refine Run.cond rfl (fun hc96 => ?_) (fun hc96 => ?_)
            · try simp only [br] at hc96
              refine Run.exit rfl ?_
              refine Run.region ?_
              refine RL.val (litI (c := ((i + 1 : Nat) : Int)) (x_add rfl rfl (by omega) (by omega)) rfl) ?_
              refine RL.val (x_moveI rfl) ?_
              refine RL.nil ?_
              have hTA := htd.app hT_245
              have hND : (keysI xs_243).Nodup := by rw [hxk_247]; exact hnd
              have hDJ : ∀ a ∈ aks, a ∉ keysI xs_243 := by rw [hxk_247]; exact hdj
              refine ih1 (i + 1) _ _ ?_ (by omega)
              refine ⟨xs_243, r_244, now, F_253, aks, td ++ T_242, _, _, ⟨rfl, rfl, rfl, rfl, rfl, rfl, rfl, rfl, rfl, trivial⟩, K0, ho_4, ho_19, hS_257, hO_47, ho_275, pr_267, pr_268, pr_269, (fun q_ h1 h2 => pr_282 q_ h2 h1), pg_271, pr_54, pr_55, (fun q_ h1 h2 => pr_281 q_ h2 h1), pr_57, pr_279, pr_280, pg_284, ?_, ?_, ?_, ?_, ?_, ?_, ?_, ?_, ?_⟩
              · omega
              · omega
              · omega
              · omega
              · exact hTA
              · simp only [List.length_append, List.length_nil] at *; omega
              · simp only [List.length_append, List.length_singleton] at *; omega
              · exact hND
              · exact hDJ
            · try simp only [br] at hc96
              refine Run.skip ?_
              refine Run.seq ?_
              have hkv := hU k (mem_of_at hk)
              obtain ⟨hwz, d, hd, hdl⟩ := dn_mod k.v hkv.1 ((td ++ T_242).length) (by omega) (by omega)
              refine Run.region ?_
              refine RL.val (x_moveSl rfl) ?_
              refine RL.val (x_moveI rfl) ?_
              refine RL.val (x_moveSl rfl) ?_
              refine RL.val (x_lenSl Try.underlying31 rfl) ?_
              refine RL.val (x_convI rfl ⟨_, Try.underlying3⟩ Try.underlying30) ?_
              refine RL.val (litI (c := (d : Int)) (x_rem rfl rfl hwz) hd) ?_
              obtain ⟨b_289, o_290, x, hx, ha_291, hc_292⟩ := ho_275.sl.el (i := d) (by first | omega | (simp only [List.length_set]; omega))
              refine RL.val (x_idxN Try.underlying31 ty46 rfl rfl ha_291 (by first | omega | (simp only [List.length_set]; omega))) ?_
              refine RL.val (x_ldV (v := .agg #[.int .i64 ((x).kind), .int .i64 ((x).frm), .int .i64 ((x).to), .int .i64 ((x).req), .string ((x).key), .slice (none) (0) (0), .slice (none) (0) (0), .slice (none) (0) (0), .int .i64 (0), .int .i64 ((x).part), .int .i64 (0), .int .i64 (0), .int .i64 (0), .int .i64 (0), .slice (none) (0) (0), .slice (none) (0) (0), .slice (none) (0) (0)]) (y := x) ty46 rfl hc_292 rfl) ?_
              refine RL.st rfl <| St1.alloc ty46 ?_
              intro b_295 w_296 hl_299 hb_298 K_297
              replace hb_298 : Blk w_296 b_295 [.int .i64 (0), .int .i64 (0), .int .i64 (0), .int .i64 (0), .string (⟨#[]⟩), .slice (none) (0) (0), .slice (none) (0) (0), .slice (none) (0) (0), .int .i64 (0), .int .i64 (0), .int .i64 (0), .int .i64 (0), .int .i64 (0), .int .i64 (0), .slice (none) (0) (0), .slice (none) (0) (0), .slice (none) (0) (0)] 46 := hb_298
              have ne_300 : b_289 < b_295 := Nat.lt_of_lt_of_le hc_292.lt hl_299
              have pr_301 : ¬ own a_1 b_295 := fun h => absurd (ho_4.own_lt _ h) (by omega)
              have pr_302 : ¬ own a_16 b_295 := fun h => absurd (ho_19.own_lt _ h) (by omega)
              have pr_303 : ¬ one m_35 b_295 := fun h => absurd (hO_47.own_lt _ h) (by omega)
              have pr_304 : ¬ F_253 b_295 := fun h => absurd (hS_257.own_lt _ h) (by omega)
              have pr_305 : ¬ own a_251 b_295 := fun h => absurd (ho_255.own_lt _ h) (by omega)
              have pr_306 : ¬ own a_272 b_295 := fun h => absurd (ho_275.own_lt _ h) (by omega)
              have : w.heap.size ≤ b_295 := Nat.le_trans K0.size hl_299
              clear hl_299
              replace ho_4 := ho_4.ext K_297
              replace ho_19 := ho_19.ext K_297
              replace hO_47 := hO_47.ext K_297
              replace hS_257 := hS_257.ext K_297
              replace ho_255 := ho_255.ext K_297
              replace ho_275 := ho_275.ext K_297
              replace hc_292 := hc_292.ext K_297
              replace K0 := K0.ext K_297
              refine RL.st rfl <| St1.store (v := .agg #[.int .i64 ((x).kind), .int .i64 ((x).frm), .int .i64 ((x).to), .int .i64 ((x).req), .string ((x).key), .slice (none) (0) (0), .slice (none) (0) (0), .slice (none) (0) (0), .int .i64 (0), .int .i64 ((x).part), .int .i64 (0), .int .i64 (0), .int .i64 (0), .int .i64 (0), .slice (none) (0) (0), .slice (none) (0) (0), .slice (none) (0) (0)]) ty46 rfl rfl rfl (by simp [Value.cells, Value.oneCell']) hb_298 (by simp) ?_
              intro w_307 hb_298_ K_308
              have hb_298' : Blk w_307 b_295 [.int .i64 ((x).kind), .int .i64 ((x).frm), .int .i64 ((x).to), .int .i64 ((x).req), .string ((x).key), .slice (none) (0) (0), .slice (none) (0) (0), .slice (none) (0) (0), .int .i64 (0), .int .i64 ((x).part), .int .i64 (0), .int .i64 (0), .int .i64 (0), .int .i64 (0), .slice (none) (0) (0), .slice (none) (0) (0), .slice (none) (0) (0)] 46 := hb_298_
              clear hb_298_
              replace ho_4 := ho_4.keepO K_308 (fun q_ hq_ eq_ => pr_301 (by simp only [one] at eq_; rw [← eq_]; exact hq_))
              replace ho_19 := ho_19.keepO K_308 (fun q_ hq_ eq_ => pr_302 (by simp only [one] at eq_; rw [← eq_]; exact hq_))
              replace hO_47 := hO_47.keepO K_308 (fun q_ hq_ eq_ => pr_303 (by simp only [one] at eq_; rw [← eq_]; exact hq_))
              replace hS_257 := hS_257.keepO K_308 (fun q_ hq_ eq_ => pr_304 (by simp only [one] at eq_; rw [← eq_]; exact hq_))
              replace ho_255 := ho_255.keepO K_308 (fun q_ hq_ eq_ => pr_305 (by simp only [one] at eq_; rw [← eq_]; exact hq_))
              replace ho_275 := ho_275.keepO K_308 (fun q_ hq_ eq_ => pr_306 (by simp only [one] at eq_; rw [← eq_]; exact hq_))
              replace hc_292 := hc_292.keep K_308 (fun e => pr_306 (by simp only [one] at e; rw [← e]; exact (own_sub _) _ ha_291))
              replace K0 := K0.new K_308 (fun x hx => by simp only [one] at hx; omega)
              replace hb_298 := hb_298'
              clear hb_298'
              refine RL.nil ?_
              refine Run.seq ?_
              refine Run.region ?_
              refine RL.val (x_moveP rfl) ?_
              refine RL.st rfl <| St1.call (vals := [.pointer (some ⟨s_8, 0, none⟩), .int .i64 (5), .int .i64 (4)]) en17 rfl (dn_left hS_257) ?_
              rintro _ w_309 ⟨rfl, K_310⟩
              replace ho_4 := ho_4.ext K_310
              replace ho_19 := ho_19.ext K_310
              replace hO_47 := hO_47.ext K_310
              replace hS_257 := hS_257.ext K_310
              replace ho_255 := ho_255.ext K_310
              replace ho_275 := ho_275.ext K_310
              replace hb_298 := hb_298.ext K_310
              replace K0 := K0.ext K_310
              refine RL.val (x_assignI rfl) ?_
              refine RL.nil ?_
              refine Run.seq ?_
              refine Run.region ?_
              refine RL.val (x_moveP rfl) ?_
              refine RL.val (x_lds (cs := #[.int .i64 ((x).kind), .int .i64 ((x).frm), .int .i64 ((x).to), .int .i64 ((x).req), .string ((x).key), .slice (none) (0) (0), .slice (none) (0) (0), .slice (none) (0) (0), .int .i64 (0), .int .i64 ((x).part), .int .i64 (0), .int .i64 (0), .int .i64 (0), .int .i64 (0), .slice (none) (0) (0), .slice (none) (0) (0), .slice (none) (0) (0)]) ty46 rfl rfl (hb_298.cl.drop 0 17)) ?_
              refine RL.st rfl <| St1.call (vals := [.agg #[.int .i64 ((x).kind), .int .i64 ((x).frm), .int .i64 ((x).to), .int .i64 ((x).req), .string ((x).key), .slice (none) (0) (0), .slice (none) (0) (0), .slice (none) (0) (0), .int .i64 (0), .int .i64 ((x).part), .int .i64 (0), .int .i64 (0), .int .i64 (0), .int .i64 (0), .slice (none) (0) (0), .slice (none) (0) (0), .slice (none) (0) (0)]]) en16 rfl (handed_ x _) ?_
              rintro _ w_311 ⟨rfl, K_312⟩
              replace ho_4 := ho_4.ext K_312
              replace ho_19 := ho_19.ext K_312
              replace hO_47 := hO_47.ext K_312
              replace hS_257 := hS_257.ext K_312
              replace ho_255 := ho_255.ext K_312
              replace ho_275 := ho_275.ext K_312
              replace hb_298 := hb_298.ext K_312
              replace K0 := K0.ext K_312
              refine RL.val (x_moveI rfl) ?_
              refine RL.st rfl <| St1.call (vals := [.pointer (some ⟨s_8, 0, none⟩), .agg #[.int .i64 (((handedM x)).kind), .int .i64 (((handedM x)).frm), .int .i64 (((handedM x)).to), .int .i64 (((handedM x)).req), .string (((handedM x)).key), .slice (none) (0) (0), .slice (none) (0) (0), .slice (none) (0) (0), .int .i64 (0), .int .i64 (((handedM x)).part), .int .i64 (0), .int .i64 (0), .int .i64 (0), .int .i64 (0), .slice (none) (0) (0), .slice (none) (0) (0), .slice (none) (0) (0)], .int .i64 (now)]) en15 rfl (dn_on hS_257 x now ((htd.app hT_245) x (mem_of_at hx)) (by omega) (by omega) (by omega)) ?_
              rintro _ w_329 ⟨T_313, xs_314, r_315, hT_316, hTl_317, hra_318, hrb_319, (⟨hxk_320, hxl_321⟩ | ⟨j_322, hjl_323, hjd_324, hjk_325, hxl_321⟩), a_326, c_327, F_328, rfl, ho_330, hg_331, hS_332, hm_333, hap_334, K_335⟩
              · have pr_336 : ∀ q_, own a_326 q_ → ¬ own a_1 q_ := apartNew hg_331 ho_4.own_lt
                have pr_337 : ∀ q_, own a_326 q_ → ¬ own a_16 q_ := apartNew hg_331 ho_19.own_lt
                have pr_338 : ∀ q_, own a_326 q_ → ¬ one m_35 q_ := apartNew hg_331 hO_47.own_lt
                have pr_339 : ∀ q_, own a_326 q_ → ¬ F_253 q_ := apartNew hg_331 hS_257.own_lt
                have pr_340 : ∀ q_, own a_326 q_ → ¬ own a_251 q_ := apartNew hg_331 ho_255.own_lt
                have pr_341 : ∀ q_, own a_326 q_ → ¬ own a_272 q_ := apartNew hg_331 ho_275.own_lt
                have pr_342 : ¬ own a_326 b_295 := notNew hg_331 hb_298.lt
                have pg_343 : ∀ q_, own a_326 q_ → w.heap.size ≤ q_ := fun q_ h => Nat.le_trans K0.size (hg_331 q_ h)
                clear hg_331
                have pr_344 : ∀ q_, F_328 q_ → ¬ own a_1 q_ := hm_333.apart pr_267 ho_4.own_lt
                have pr_345 : ∀ q_, F_328 q_ → ¬ own a_16 q_ := hm_333.apart pr_268 ho_19.own_lt
                have pr_346 : ∀ q_, F_328 q_ → ¬ one m_35 q_ := hm_333.apart pr_269 hO_47.own_lt
                have pr_347 : ∀ q_, F_328 q_ → ¬ own a_251 q_ := hm_333.apart (fun q_ h1 h2 => hap_259 q_ h2 h1) ho_255.own_lt
                have pr_348 : ∀ q_, F_328 q_ → ¬ own a_272 q_ := hm_333.apart (fun q_ h1 h2 => pr_282 q_ h2 h1) ho_275.own_lt
                have pr_349 : ¬ F_328 b_295 := hm_333.not pr_304 hb_298.lt
                have pg_350 : ∀ q_, F_328 q_ → w.heap.size ≤ q_ := hm_333.ge pg_271 K0.size
                replace ho_4 := ho_4.keepO K_335 (fun q_ h1 h2 => pr_267 q_ h2 h1)
                replace ho_19 := ho_19.keepO K_335 (fun q_ h1 h2 => pr_268 q_ h2 h1)
                replace hO_47 := hO_47.keepO K_335 (fun q_ h1 h2 => pr_269 q_ h2 h1)
                replace ho_255 := ho_255.keepO K_335 hap_259
                replace ho_275 := ho_275.keepO K_335 pr_282
                replace hb_298 := hb_298.keep K_335 pr_304
                replace K0 := K0.new K_335 pg_271
                clear hm_333
                refine RL.val (x_assignSl rfl) ?_
                refine RL.nil ?_
                refine Run.seq ?_
                refine Run.region ?_
                refine RL.val (x_moveSl rfl) ?_
                refine RL.val (x_moveSl rfl) ?_
                refine RL.st rfl <| St1.append (xs := td ++ T_242) (ys := T_313) Try.underlying31 ty46 rfl rfl rfl ho_275 ho_330.sl (by first | omega | (simp only [lr]; omega)) (by decide) ?_
                intro a_351 c_352 w_353 ho_354 K_355 hm_356 hrm_357
                have pr_358 : ∀ q_, own a_351 q_ → ¬ own a_1 q_ := hm_356.apart pr_279 ho_4.own_lt
                have pr_359 : ∀ q_, own a_351 q_ → ¬ own a_16 q_ := hm_356.apart pr_280 ho_19.own_lt
                have pr_360 : ∀ q_, own a_351 q_ → ¬ one m_35 q_ := hm_356.apart pr_281 hO_47.own_lt
                have pr_361 : ∀ q_, own a_351 q_ → ¬ own a_251 q_ := hm_356.apart pr_283 ho_255.own_lt
                have pr_362 : ¬ own a_351 b_295 := hm_356.not pr_306 hb_298.lt
                have pr_363 : ∀ q_, own a_351 q_ → ¬ F_328 q_ := hm_356.apart (fun q_ h1 h2 => pr_348 q_ h2 h1) hS_332.own_lt
                have pr_364 : ∀ q_, own a_351 q_ → ¬ own a_326 q_ := hm_356.apart (fun q_ h1 h2 => pr_341 q_ h2 h1) ho_330.own_lt
                have pg_365 : ∀ q_, own a_351 q_ → w.heap.size ≤ q_ := hm_356.ge pg_284 K0.size
                replace ho_4 := ho_4.keepO K_355 (fun q_ h1 h2 => pr_279 q_ h2 h1)
                replace ho_19 := ho_19.keepO K_355 (fun q_ h1 h2 => pr_280 q_ h2 h1)
                replace hO_47 := hO_47.keepO K_355 (fun q_ h1 h2 => pr_281 q_ h2 h1)
                replace ho_255 := ho_255.keepO K_355 (fun q_ h1 h2 => pr_283 q_ h2 h1)
                replace hb_298 := hb_298.keep K_355 pr_306
                replace hS_332 := hS_332.keepO K_355 pr_348
                replace ho_330 := ho_330.keepO K_355 pr_341
                replace K0 := K0.new K_355 pg_284
                clear hm_356
                clear hrm_357
                refine RL.val (x_assignSl rfl) ?_
                refine RL.nil ?_
                refine Run.seq ?_
                refine Run.seq ?_
                refine Run.region ?_
                refine RL.val (x_moveP rfl) ?_
                refine RL.st rfl <| St1.call (vals := [.pointer (some ⟨s_8, 0, none⟩), .int .i64 (5), .int .i64 (4)]) en17 rfl (dn_left hS_332) ?_
                rintro _ w_366 ⟨rfl, K_367⟩
                replace ho_4 := ho_4.ext K_367
                replace ho_19 := ho_19.ext K_367
                replace hO_47 := hO_47.ext K_367
                replace ho_255 := ho_255.ext K_367
                replace hb_298 := hb_298.ext K_367
                replace hS_332 := hS_332.ext K_367
                replace ho_330 := ho_330.ext K_367
                replace ho_354 := ho_354.ext K_367
                replace K0 := K0.ext K_367
                refine RL.val (x_moveI rfl) ?_
                refine RL.val (x_ltI rfl rfl) ?_
                refine RL.nil ?_
                refine Run.cond rfl (fun hc118 => ?_) (fun hc118 => ?_)
                · try simp only [br] at hc118
                  exact absurd hc118 (by omega)
                · try simp only [br] at hc118
                  refine Run.skip ?_
                  refine Run.seq ?_
                  refine Run.region ?_
                  refine RL.val (x_moveSl rfl) ?_
                  refine RL.val (x_lenSl Try.underlying31 rfl) ?_
                  refine RL.val (x_gtI rfl rfl) ?_
                  refine RL.val (x_moveB rfl) ?_
                  refine RL.gval (wantedF rfl rfl rfl rfl) (fun hg => (x_moveP rfl)) ?_
                  refine RL.gcall (vals := [.pointer (some ⟨s_8, 0, none⟩), .int .i64 (5), .int .i64 (4)]) (wantedF rfl rfl rfl rfl) en17 (fun hg => (mcons (gvr hg) (mcons rfl (mcons rfl mnil)))) (fun hg => (dn_left hS_332)) ?_
                  intro w_368 K_369
                  replace ho_4 := ho_4.ext K_369
                  replace ho_19 := ho_19.ext K_369
                  replace hO_47 := hO_47.ext K_369
                  replace ho_255 := ho_255.ext K_369
                  replace hb_298 := hb_298.ext K_369
                  replace hS_332 := hS_332.ext K_369
                  replace ho_330 := ho_330.ext K_369
                  replace ho_354 := ho_354.ext K_369
                  replace K0 := K0.ext K_369
                  refine RL.gval (wantedF rfl rfl rfl rfl) (fun hg => (x_moveI rfl)) ?_
                  refine RL.gval (wantedF rfl rfl rfl rfl) (fun hg => (x_sub (gvr hg) rfl (by omega) (by omega))) ?_
                  refine RL.gval (wantedF rfl rfl rfl rfl) (fun hg => (x_ltI (gvr hg) (gvr hg))) ?_
                  refine RL.val (x_or rfl rfl rfl) ?_
                  refine RL.nil ?_
                  refine Run.cond rfl (fun hc131 => ?_) (fun hc131 => ?_)
                  · try simp only [br] at hc131
                    exact absurd hc131 (by omega)
                  · try simp only [br] at hc131
                    refine Run.skip ?_
                    refine Run.inBlock ?_
                    refine Run.region ?_
                    refine RL.val (litI (c := ((i + 1 : Nat) : Int)) (x_add rfl rfl (by omega) (by omega)) rfl) ?_
                    refine RL.val (x_moveI rfl) ?_
                    refine RL.nil ?_
                    have hTA := (htd.app hT_245).app hT_316
                    have hND : (keysI xs_314).Nodup := by rw [hxk_320, hxk_247]; exact hnd
                    have hDJ : ∀ a ∈ aks, a ∉ keysI xs_314 := by rw [hxk_320, hxk_247]; exact hdj
                    refine ih1 (i + 1) _ _ ?_ (by omega)
                    refine ⟨xs_314, r_315, now, F_328, aks, (td ++ T_242) ++ T_313, _, _, ⟨rfl, rfl, rfl, rfl, rfl, rfl, rfl, rfl, rfl, trivial⟩, K0, ho_4, ho_19, hS_332, hO_47, ho_354, pr_344, pr_345, pr_346, (fun q_ h1 h2 => pr_363 q_ h2 h1), pg_350, pr_54, pr_55, (fun q_ h1 h2 => pr_360 q_ h2 h1), pr_57, pr_358, pr_359, pg_365, ?_, ?_, ?_, ?_, ?_, ?_, ?_, ?_, ?_⟩
                    · omega
                    · omega
                    · omega
                    · omega
                    · exact hTA
                    · simp only [List.length_append, List.length_nil] at *; omega
                    · simp only [List.length_append, List.length_singleton] at *; omega
                    · exact hND
                    · exact hDJ
              · have pr_370 : ∀ q_, own a_326 q_ → ¬ own a_1 q_ := apartNew hg_331 ho_4.own_lt
                have pr_371 : ∀ q_, own a_326 q_ → ¬ own a_16 q_ := apartNew hg_331 ho_19.own_lt
                have pr_372 : ∀ q_, own a_326 q_ → ¬ one m_35 q_ := apartNew hg_331 hO_47.own_lt
                have pr_373 : ∀ q_, own a_326 q_ → ¬ F_253 q_ := apartNew hg_331 hS_257.own_lt
                have pr_374 : ∀ q_, own a_326 q_ → ¬ own a_251 q_ := apartNew hg_331 ho_255.own_lt
                have pr_375 : ∀ q_, own a_326 q_ → ¬ own a_272 q_ := apartNew hg_331 ho_275.own_lt
                have pr_376 : ¬ own a_326 b_295 := notNew hg_331 hb_298.lt
                have pg_377 : ∀ q_, own a_326 q_ → w.heap.size ≤ q_ := fun q_ h => Nat.le_trans K0.size (hg_331 q_ h)
                clear hg_331
                have pr_378 : ∀ q_, F_328 q_ → ¬ own a_1 q_ := hm_333.apart pr_267 ho_4.own_lt
                have pr_379 : ∀ q_, F_328 q_ → ¬ own a_16 q_ := hm_333.apart pr_268 ho_19.own_lt
                have pr_380 : ∀ q_, F_328 q_ → ¬ one m_35 q_ := hm_333.apart pr_269 hO_47.own_lt
                have pr_381 : ∀ q_, F_328 q_ → ¬ own a_251 q_ := hm_333.apart (fun q_ h1 h2 => hap_259 q_ h2 h1) ho_255.own_lt
                have pr_382 : ∀ q_, F_328 q_ → ¬ own a_272 q_ := hm_333.apart (fun q_ h1 h2 => pr_282 q_ h2 h1) ho_275.own_lt
                have pr_383 : ¬ F_328 b_295 := hm_333.not pr_304 hb_298.lt
                have pg_384 : ∀ q_, F_328 q_ → w.heap.size ≤ q_ := hm_333.ge pg_271 K0.size
                replace ho_4 := ho_4.keepO K_335 (fun q_ h1 h2 => pr_267 q_ h2 h1)
                replace ho_19 := ho_19.keepO K_335 (fun q_ h1 h2 => pr_268 q_ h2 h1)
                replace hO_47 := hO_47.keepO K_335 (fun q_ h1 h2 => pr_269 q_ h2 h1)
                replace ho_255 := ho_255.keepO K_335 hap_259
                replace ho_275 := ho_275.keepO K_335 pr_282
                replace hb_298 := hb_298.keep K_335 pr_304
                replace K0 := K0.new K_335 pg_271
                clear hm_333
                refine RL.val (x_assignSl rfl) ?_
                refine RL.nil ?_
                refine Run.seq ?_
                refine Run.region ?_
                refine RL.val (x_moveSl rfl) ?_
                refine RL.val (x_moveSl rfl) ?_
                refine RL.st rfl <| St1.append (xs := td ++ T_242) (ys := T_313) Try.underlying31 ty46 rfl rfl rfl ho_275 ho_330.sl (by first | omega | (simp only [lr]; omega)) (by decide) ?_
                intro a_385 c_386 w_387 ho_388 K_389 hm_390 hrm_391
                have pr_392 : ∀ q_, own a_385 q_ → ¬ own a_1 q_ := hm_390.apart pr_279 ho_4.own_lt
                have pr_393 : ∀ q_, own a_385 q_ → ¬ own a_16 q_ := hm_390.apart pr_280 ho_19.own_lt
                have pr_394 : ∀ q_, own a_385 q_ → ¬ one m_35 q_ := hm_390.apart pr_281 hO_47.own_lt
                have pr_395 : ∀ q_, own a_385 q_ → ¬ own a_251 q_ := hm_390.apart pr_283 ho_255.own_lt
                have pr_396 : ¬ own a_385 b_295 := hm_390.not pr_306 hb_298.lt
                have pr_397 : ∀ q_, own a_385 q_ → ¬ F_328 q_ := hm_390.apart (fun q_ h1 h2 => pr_382 q_ h2 h1) hS_332.own_lt
                have pr_398 : ∀ q_, own a_385 q_ → ¬ own a_326 q_ := hm_390.apart (fun q_ h1 h2 => pr_375 q_ h2 h1) ho_330.own_lt
                have pg_399 : ∀ q_, own a_385 q_ → w.heap.size ≤ q_ := hm_390.ge pg_284 K0.size
                replace ho_4 := ho_4.keepO K_389 (fun q_ h1 h2 => pr_279 q_ h2 h1)
                replace ho_19 := ho_19.keepO K_389 (fun q_ h1 h2 => pr_280 q_ h2 h1)
                replace hO_47 := hO_47.keepO K_389 (fun q_ h1 h2 => pr_281 q_ h2 h1)
                replace ho_255 := ho_255.keepO K_389 (fun q_ h1 h2 => pr_283 q_ h2 h1)
                replace hb_298 := hb_298.keep K_389 pr_306
                replace hS_332 := hS_332.keepO K_389 pr_382
                replace ho_330 := ho_330.keepO K_389 pr_375
                replace K0 := K0.new K_389 pg_284
                clear hm_390
                clear hrm_391
                refine RL.val (x_assignSl rfl) ?_
                refine RL.nil ?_
                refine Run.seq ?_
                refine Run.seq ?_
                refine Run.region ?_
                refine RL.val (x_moveP rfl) ?_
                refine RL.st rfl <| St1.call (vals := [.pointer (some ⟨s_8, 0, none⟩), .int .i64 (5), .int .i64 (4)]) en17 rfl (dn_left hS_332) ?_
                rintro _ w_400 ⟨rfl, K_401⟩
                replace ho_4 := ho_4.ext K_401
                replace ho_19 := ho_19.ext K_401
                replace hO_47 := hO_47.ext K_401
                replace ho_255 := ho_255.ext K_401
                replace hb_298 := hb_298.ext K_401
                replace hS_332 := hS_332.ext K_401
                replace ho_330 := ho_330.ext K_401
                replace ho_388 := ho_388.ext K_401
                replace K0 := K0.ext K_401
                refine RL.val (x_moveI rfl) ?_
                refine RL.val (x_ltI rfl rfl) ?_
                refine RL.nil ?_
                refine Run.cond rfl (fun hc118 => ?_) (fun hc118 => ?_)
                · try simp only [br] at hc118
                  refine Run.region ?_
                  refine RL.val (x_moveM rfl) ?_
                  refine RL.val (x_fld (o' := 4) Try.underlying46 rfl ty9 rfl rfl rfl) ?_
                  refine RL.val (x_ld (v := .string ((x).key)) ty9 rfl rfl (hb_298.cl.field (i := 4) rfl)) ?_
                  refine RL.st rfl <| St1.mapUpdate (v := .bool (true)) Try.underlying53 Try.underlying9 rfl rfl rfl rfl hO_47 ?_
                  intro w_402 hM_403 K_404
                  have hjk' := hjk_325
                  rw [hxk_247] at hjk'
                  have hnk : x.key ∉ aks := fun h => hdj _ h (List.mem_of_getElem? hjk')
                  replace hM_403 : MapAt w_402 m_35 (akE (aks ++ [x.key])) := (akE_put hnk ▸ hM_403)
                  replace ho_4 := ho_4.keepO K_404 (fun q_ h1 h2 => pr_54 q_ h2 h1)
                  replace ho_19 := ho_19.keepO K_404 (fun q_ h1 h2 => pr_55 q_ h2 h1)
                  replace ho_255 := ho_255.keepO K_404 pr_264
                  replace hb_298 := hb_298.keep K_404 pr_303
                  replace hS_332 := hS_332.keepO K_404 pr_380
                  replace ho_330 := ho_330.keepO K_404 pr_372
                  replace ho_388 := ho_388.keepO K_404 pr_394
                  replace K0 := K0.new K_404 pr_57
                  replace hO_47 := hM_403
                  clear hM_403
                  refine RL.nil ?_
                  refine Run.seq ?_
                  refine Run.region ?_
                  refine RL.val (x_moveSl rfl) ?_
                  refine RL.val (x_lenSl Try.underlying31 rfl) ?_
                  refine RL.val (x_gtI rfl rfl) ?_
                  refine RL.val (x_moveB rfl) ?_
                  refine RL.gval (wantedF rfl rfl rfl rfl) (fun hg => (x_moveP rfl)) ?_
                  refine RL.gcall (vals := [.pointer (some ⟨s_8, 0, none⟩), .int .i64 (5), .int .i64 (4)]) (wantedF rfl rfl rfl rfl) en17 (fun hg => (mcons (gvr hg) (mcons rfl (mcons rfl mnil)))) (fun hg => (dn_left hS_332)) ?_
                  intro w_405 K_406
                  replace ho_4 := ho_4.ext K_406
                  replace ho_19 := ho_19.ext K_406
                  replace hO_47 := hO_47.ext K_406
                  replace ho_255 := ho_255.ext K_406
                  replace hb_298 := hb_298.ext K_406
                  replace hS_332 := hS_332.ext K_406
                  replace ho_330 := ho_330.ext K_406
                  replace ho_388 := ho_388.ext K_406
                  replace K0 := K0.ext K_406
                  refine RL.gval (wantedF rfl rfl rfl rfl) (fun hg => (x_moveI rfl)) ?_
                  refine RL.gval (wantedF rfl rfl rfl rfl) (fun hg => (x_sub (gvr hg) rfl (by omega) (by omega))) ?_
                  refine RL.gval (wantedF rfl rfl rfl rfl) (fun hg => (x_ltI (gvr hg) (gvr hg))) ?_
                  refine RL.val (x_or rfl rfl rfl) ?_
                  refine RL.nil ?_
                  refine Run.cond rfl (fun hc131 => ?_) (fun hc131 => ?_)
                  · try simp only [br] at hc131
                    exact absurd hc131 (by omega)
                  · try simp only [br] at hc131
                    refine Run.skip ?_
                    refine Run.inBlock ?_
                    refine Run.region ?_
                    refine RL.val (litI (c := ((i + 1 : Nat) : Int)) (x_add rfl rfl (by omega) (by omega)) rfl) ?_
                    refine RL.val (x_moveI rfl) ?_
                    refine RL.nil ?_
                    have hTA := (htd.app hT_245).app hT_316
                    have hND : (keysI xs_314).Nodup := by rw [hjd_324, hxk_247]; exact (dn_del hnd hdj hjk').1
                    have hDJ : ∀ a ∈ (aks ++ [x.key]), a ∉ keysI xs_314 := by rw [hjd_324, hxk_247]; exact (dn_del hnd hdj hjk').2
                    refine ih1 (i + 1) _ _ ?_ (by omega)
                    refine ⟨xs_314, r_315, now, F_328, (aks ++ [x.key]), (td ++ T_242) ++ T_313, _, _, ⟨rfl, rfl, rfl, rfl, rfl, rfl, rfl, rfl, rfl, trivial⟩, K0, ho_4, ho_19, hS_332, hO_47, ho_388, pr_378, pr_379, pr_380, (fun q_ h1 h2 => pr_397 q_ h2 h1), pg_384, pr_54, pr_55, (fun q_ h1 h2 => pr_394 q_ h2 h1), pr_57, pr_392, pr_393, pg_399, ?_, ?_, ?_, ?_, ?_, ?_, ?_, ?_, ?_⟩
                    · omega
                    · omega
                    · omega
                    · omega
                    · exact hTA
                    · simp only [List.length_append, List.length_nil] at *; omega
                    · simp only [List.length_append, List.length_singleton] at *; omega
                    · exact hND
                    · exact hDJ
                · try simp only [br] at hc118
                  exact absurd hc118 (by omega)
    · try simp only [br] at hc46
      refine Run.exit rfl ?_
      refine Run.seq ?_
      refine Run.region ?_
      refine RL.val (x_moveP rfl) ?_
      refine RL.st rfl <| St1.call (vals := [.pointer (some ⟨s_8, 0, none⟩), .int .i64 (5), .int .i64 (4)]) en18 rfl (dn_done hO_46) ?_
      rintro _ w_407 ⟨rfl, K_408⟩
      replace ho_4 := ho_4.ext K_408
      replace ho_19 := ho_19.ext K_408
      replace hO_46 := hO_46.ext K_408
      replace hO_47 := hO_47.ext K_408
      replace ho_48 := ho_48.ext K_408
      replace K0 := K0.ext K_408
      refine RL.val (x_moveM rfl) ?_
      refine RL.val (x_lenMap Try.underlying53 rfl hO_47) ?_
      refine RL.val (x_moveSl rfl) ?_
      refine RL.val (x_lenSl Try.underlying22 rfl) ?_
      refine RL.val (x_eqI rfl rfl) ?_
      refine RL.val (x_eqB Try.underlying4 rfl rfl) ?_
      refine RL.val (x_assignB rfl) ?_
      refine RL.nil ?_
      refine Run.ret1 (v := .bool ((decide (((xs.length : Nat) : Int) = 0)) == ((((akE aks).length : Nat) : Int) == (((fineL keys).length : Nat) : Int)))) Try.func4 rfl rfl ?_
      exact ⟨_, rfl, congrArg Value.bool (by rw [akE_len]; exact done_fin hxa), K0⟩

end Go.Proofs.Ythhhkjmlnjbnjaa
