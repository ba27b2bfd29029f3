/-
  Layer 18, the document's sender: tell, with, without.
-/
import Derived.Test.YthhhkjmlnjbnjaaRows
import Derived.Test.YthhhkjmlnjbnjaaOm
namespace Go.Proofs.Ythhhkjmlnjbnjaa
attribute [local irreducible] St1 RL RA RT RT1 Run

section
variable {now r : Int} {l us : List RKey} {i q : Nat} {x y z : RKey} {L : List Item}
theorem rk_yes (h : x.sent = true) : (rk x).since = x.since := if_pos h
theorem rk_no (h : x.sent = false) : (rk x).since = -1 := if_neg (by rw [h]; exact Bool.false_ne_true)
theorem rk_pos (h : x.sent = true) (h0 : ROk us) (hx : us[i]? = some x) : 0 ≤ (rk x).since := by rw [rk_yes h]; exact h0 x (List.mem_of_getElem? hx) h
theorem rk_get (hx : us[i]? = some x) : (us.map rk)[i]? = some (rk x) := by rw [List.getElem?_map, hx]; rfl
theorem rk_set : (us.set i z).map rk = (us.map rk).set i (rk z) := List.map_set ..
theorem set_len' (us : List RKey) (i : Nat) (z : RKey) : us.length = (us.set i z).length := (List.length_set ..).symm
theorem ROk.set (h : ROk us) (hz : z.sent = true → 0 ≤ z.since) : ROk (us.set i z) := fun x hx hs => by
  rcases List.mem_or_eq_of_mem_set hx with hx | rfl
  · exact h x hx hs
  · exact hz hs
theorem rk_len (h : us.map rk = L) : us.length = L.length := by rw [← h, List.length_map]
theorem sent_i (h0 : ROk us) (hx : us[i]? = some x) : sentI (rk x) = x.sent := by
  cases hs : x.sent with
  | true => exact decide_eq_true (rk_pos hs h0 hx)
  | false => exact decide_eq_false (by rw [rk_no hs]; omega)
theorem age_sent (h : x.sent = true) (h0 : 0 ≤ x.since) (h1 : 1000 ≤ now - x.since) : ageI now (rk x) = rk ⟨x.name, false, x.req, x.since⟩ := by
  rw [age_yes (by rw [rk_yes h]; exact h0) (by rw [rk_yes h]; exact h1)]; rfl
theorem age_else (h : x.sent = false ∨ now - x.since < 1000) : ageI now (rk x) = rk x := age_no fun h2 => by
  cases hs : x.sent with
  | true => rw [rk_yes hs] at h2; exact h.elim (fun h => absurd (hs.symm.trans h) (by decide)) (fun h => by omega)
  | false => rw [rk_no hs] at h2; omega
theorem sd_full {l : List Item} (hc : 4 ≤ (sdS now r l q).c) : ∀ n, q + n ≤ l.length → mixS now r l (q + n) = mixS now r l q ∧ (sdS now r l (q + n)).c = (sdS now r l q).c ∧ (sdS now r l (q + n)).r = (sdS now r l q).r ∧ (sdS now r l (q + n)).T = (sdS now r l q).T
  | 0, _ => ⟨rfl, rfl, rfl, rfl⟩
  | n + 1, h => by
    obtain ⟨h1, h2, h3, h4⟩ := sd_full hc n (by omega)
    have hx : (agedL now l)[q + n]? = some ((agedL now l)[q + n]'(by rw [aged_len]; omega)) := List.getElem?_eq_getElem _
    have e0 := sdS_skip (r := r) hx (.inr (by omega))
    have e1 := mixS_same (r := r) hx (by rw [e0])
    rw [show q + (n + 1) = q + n + 1 by omega]
    exact ⟨e1.trans h1, by rw [e0]; exact h2, by rw [e0]; exact h3, by rw [e0]; exact h4⟩
theorem sd_stop {l : List Item} (hq : q ≤ l.length) (hc : ¬ (q < l.length ∧ (sdS now r l q).c < 4)) : mixS now r l q = (tellP now r l).L ∧ (sdS now r l q).r = (tellP now r l).r ∧ (sdS now r l q).T = (tellP now r l).T := by
  by_cases h : q = l.length
  · exact ⟨mixS_end h, by rw [sdS_end h], by rw [sdS_end h]⟩
  · obtain ⟨h1, h2, h3, h4⟩ := sd_full (now := now) (r := r) (l := l) (q := q) (by omega) (l.length - q) (by omega)
    have e : q + (l.length - q) = l.length := by omega
    rw [e] at h1 h2 h3 h4
    rw [← h1, ← h3, ← h4]
    exact ⟨mixS_end rfl, by rw [sdS_end rfl], by rw [sdS_end rfl]⟩
end
/-! ### a key in its place -/
def newR (k : ByteArray) : RKey := ⟨k, false, 0, 0⟩
def insR (name : ByteArray) : List ByteArray → List ByteArray
  | [] => [name]
  | x :: l => if name.data.toList < x.data.toList then name :: x :: l else x :: insR name l
def withP (name : ByteArray) (ks : List ByteArray) : List ByteArray := if ks.any (fun k => decide (k = name)) = true then ks else insR name ks
def wiStep (name : ByteArray) (s : List ByteArray × Bool) (x : ByteArray) : List ByteArray × Bool := if s.2 = false ∧ name.data.toList < x.data.toList then (s.1 ++ [name, x], true) else (s.1 ++ [x], s.2)
def wiI (name : ByteArray) (ks : List ByteArray) (i : Nat) : List ByteArray × Bool := (ks.take i).foldl (wiStep name) ([], false)
def withI (keys : List ByteArray) (i : Nat) : List ByteArray := (keys.take i).foldl (fun s k => withP k s) []
section
variable {name x : ByteArray} {ks keys : List ByteArray} {i : Nat} {y : RKey}
theorem newR_get (h : (ks.map newR)[i]? = some y) : ks[i]? = some y.name ∧ y = newR y.name := by
  rw [List.getElem?_map, Option.map_eq_some_iff] at h
  obtain ⟨k, hk, rfl⟩ := h
  exact ⟨hk, rfl⟩
theorem wi_succ (h : ks[i]? = some x) : wiI name ks (i + 1) = wiStep name (wiI name ks i) x := by rw [wiI, take_snoc' h, List.foldl_append]; rfl
theorem wi_in (h : ks[i]? = some x) (h1 : (wiI name ks i).2 = false) (h2 : name.data.toList < x.data.toList) : wiI name ks (i + 1) = ((wiI name ks i).1 ++ [name, x], true) := by rw [wi_succ h, wiStep, if_pos ⟨h1, h2⟩]
theorem wi_out (h : ks[i]? = some x) (h1 : ¬ ((wiI name ks i).2 = false ∧ name.data.toList < x.data.toList)) : wiI name ks (i + 1) = ((wiI name ks i).1 ++ [x], (wiI name ks i).2) := by rw [wi_succ h, wiStep, if_neg h1]
theorem wi_len : ∀ i, i ≤ ks.length → (wiI name ks i).1.length ≤ i + 1 ∧ ((wiI name ks i).2 = false → (wiI name ks i).1.length ≤ i)
  | 0, _ => ⟨by simp [wiI], fun _ => by simp [wiI]⟩
  | i + 1, h => by
    obtain ⟨h1, h2⟩ := wi_len i (by omega)
    have hx : ks[i]? = some ks[i] := List.getElem?_eq_getElem (by omega)
    by_cases hc : (wiI name ks i).2 = false ∧ name.data.toList < ks[i].data.toList
    · rw [wi_in hx hc.1 hc.2]
      have := h2 hc.1
      refine ⟨?_, fun e => absurd e (by simp)⟩
      simp only [List.length_append, List.length_cons, List.length_nil]; omega
    · rw [wi_out hx hc]
      simp only [List.length_append, List.length_cons, List.length_nil]
      exact ⟨by omega, fun e => by have := h2 e; omega⟩
theorem wi_inv : ∀ i, i ≤ ks.length → ((wiI name ks i).2 = false → (wiI name ks i).1 = ks.take i ∧ insR name ks = ks.take i ++ insR name (ks.drop i)) ∧ ((wiI name ks i).2 = true → (wiI name ks i).1 ++ ks.drop i = insR name ks)
  | 0, _ => ⟨fun _ => ⟨rfl, rfl⟩, fun h => absurd h (by simp [wiI])⟩
  | i + 1, h => by
    obtain ⟨h1, h2⟩ := wi_inv i (by omega)
    have hi : i < ks.length := by omega
    have hx : ks[i]? = some ks[i] := List.getElem?_eq_getElem hi
    have hd : ks.drop i = ks[i] :: ks.drop (i + 1) := List.drop_eq_getElem_cons hi
    by_cases hc : (wiI name ks i).2 = false ∧ name.data.toList < ks[i].data.toList
    · rw [wi_in hx hc.1 hc.2]
      refine ⟨fun e => absurd e (by simp), fun _ => ?_⟩
      obtain ⟨h3, h4⟩ := h1 hc.1
      rw [h4, hd, insR, if_pos hc.2, h3, List.append_assoc]; rfl
    · rw [wi_out hx hc]
      refine ⟨fun e => ?_, fun e => ?_⟩
      · obtain ⟨h3, h4⟩ := h1 e
        have hlt : ¬ name.data.toList < ks[i].data.toList := fun h => hc ⟨e, h⟩
        refine ⟨by rw [h3, take_snoc' hx], ?_⟩
        rw [h4, hd, insR, if_neg hlt, take_snoc' hx, List.append_assoc]; rfl
      · have := h2 e
        rw [← this, hd, List.append_assoc]; rfl
theorem wi_end (h : i = ks.length) : ((wiI name ks i).2 = false → (wiI name ks i).1 ++ [name] = insR name ks) ∧ ((wiI name ks i).2 = true → (wiI name ks i).1 = insR name ks) := by
  obtain ⟨h1, h2⟩ := wi_inv (name := name) (ks := ks) i (by omega)
  refine ⟨fun e => ?_, fun e => ?_⟩
  · obtain ⟨h3, h4⟩ := h1 e
    rw [h4, h3, h, List.drop_length]; rfl
  · have := h2 e
    rwa [h, List.drop_length, List.append_nil, ← h] at this
theorem insR_mem : ∀ {ks : List ByteArray}, x ∈ insR name ks ↔ x = name ∨ x ∈ ks
  | [] => by simp [insR]
  | y :: l => by
    rw [insR]
    split
    · simp
    · rw [List.mem_cons, insR_mem (ks := l), List.mem_cons]
      constructor
      · rintro (h | h | h)
        · exact .inr (.inl h)
        · exact .inl h
        · exact .inr (.inr h)
      · rintro (h | h | h)
        · exact .inr (.inl h)
        · exact .inl h
        · exact .inr (.inr h)
theorem insR_rises : ∀ {ks : List ByteArray}, Rising ks → name ∉ ks → Rising (insR name ks)
  | [], _, _ => List.pairwise_singleton _ _
  | y :: l, h, hn => by
    obtain ⟨h1, h2⟩ := List.pairwise_cons.1 h
    rw [insR]
    split
    · rename_i hlt
      refine List.pairwise_cons.2 ⟨fun z hz => ?_, h⟩
      rcases List.mem_cons.1 hz with rfl | hz
      · exact hlt
      · exact List.lt_trans hlt (h1 z hz)
    · rename_i hlt
      refine List.pairwise_cons.2 ⟨fun z hz => ?_, insR_rises h2 (fun h => hn (List.mem_cons_of_mem _ h))⟩
      rcases insR_mem.1 hz with rfl | hz
      · exact (List.le_iff_lt_or_eq.1 (List.not_lt.1 hlt)).resolve_right (fun e => hn (List.mem_cons.2 (.inl (ByteArray.ext (Array.toList_inj.1 e.symm)))))
      · exact h1 z hz
theorem anyN_mem : ks.any (fun k => decide (k = name)) = true ↔ name ∈ ks := by simp
theorem withP_mem : x ∈ withP name ks ↔ x = name ∨ x ∈ ks := by
  unfold withP
  split
  · rename_i h
    exact ⟨.inr, fun h2 => h2.elim (fun e => e ▸ anyN_mem.1 h) id⟩
  · exact insR_mem
theorem withP_rises (h : Rising ks) : Rising (withP name ks) := by
  unfold withP
  split
  · exact h
  · rename_i hn; exact insR_rises h (fun h2 => hn (anyN_mem.2 h2))
theorem withP_len : (withP name ks).length ≤ ks.length + 1 := by
  unfold withP
  split
  · omega
  · rename_i hn
    clear hn
    induction ks with
    | nil => simp [insR]
    | cons y l ih => rw [insR]; split <;> simp only [List.length_cons] <;> omega
theorem withP_in (h : name ∈ ks) : withP name ks = ks := if_pos (anyN_mem.2 h)
theorem withP_out (h : name ∉ ks) : withP name ks = insR name ks := if_neg (fun h2 => h (anyN_mem.1 h2))
theorem nb_ne {j : Nat} {y : ByteArray} (h : ∀ j y, j < i → ks[j]? = some y → y ≠ name) (hx : ks[i]? = some x) (hn : ¬ x = name) (h1 : j < i + 1) (h2 : ks[j]? = some y) : y ≠ name := by
  by_cases c : j = i
  · subst c; rw [hx] at h2; cases h2; exact hn
  · exact h j y (by omega) h2
theorem wi_not {b : Bool} {a c : List UInt8} (h : b = true ∨ ¬ a < c) : ¬ (b = false ∧ a < c) := by
  rintro ⟨h1, h2⟩
  subst h1
  exact h.elim (fun h => absurd h (by decide)) (fun h => h h2)
theorem withI_succ (h : keys[i]? = some x) : withI keys (i + 1) = withP x (withI keys i) := by rw [withI, take_snoc' h, List.foldl_append]; rfl
theorem withI_len : ∀ i, i ≤ keys.length → (withI keys i).length ≤ i
  | 0, _ => Nat.le_refl _
  | i + 1, h => by
    have hx : keys[i]? = some keys[i] := List.getElem?_eq_getElem (by omega)
    rw [withI_succ hx]
    have := withI_len i (by omega)
    have := withP_len (name := keys[i]) (ks := withI keys i)
    omega
theorem withI_rises : ∀ i, i ≤ keys.length → Rising (withI keys i) ∧ ∀ x, x ∈ withI keys i ↔ x ∈ keys.take i
  | 0, _ => ⟨List.Pairwise.nil, fun x => by simp [withI]⟩
  | i + 1, h => by
    have hx : keys[i]? = some keys[i] := List.getElem?_eq_getElem (by omega)
    obtain ⟨h1, h2⟩ := withI_rises i (by omega)
    rw [withI_succ hx]
    refine ⟨withP_rises h1, fun x => ?_⟩
    rw [withP_mem, h2, take_snoc' hx, List.mem_append, List.mem_singleton]
    exact Or.comm
theorem rising_ext {a b : List ByteArray} (ha : Rising a) (hb : Rising b) (h : ∀ x, x ∈ a ↔ x ∈ b) : a = b :=
  List.Perm.eq_of_pairwise (fun x y _ _ h1 h2 => absurd (List.lt_trans h1 h2) (List.lt_irrefl _)) ha hb ((List.perm_ext_iff_of_nodup ha.nodup hb.nodup).2 h)
theorem uniq_mem' {l : List ByteArray} (h : x ∈ l) : x ∈ uniq l := by
  have : ∀ (l s : List ByteArray), x ∈ s ∨ x ∈ l → x ∈ l.foldl uqStep s := by
    intro l
    induction l with
    | nil => intro s h; exact h.resolve_right (by simp)
    | cons y l ih =>
      intro s h
      rw [List.foldl_cons]
      refine ih _ ?_
      rcases h with h | h
      · left
        unfold uqStep
        split
        · exact h
        · exact List.mem_append.2 (.inl h)
      · rcases List.mem_cons.1 h with rfl | h
        · left
          unfold uqStep
          split
          · rename_i e; exact List.mem_of_getLast? e
          · simp
        · exact .inr h
  exact this l [] (.inr h)
theorem withI_end (h : i = keys.length) : withI keys i = uniq (sortN keys) := by
  obtain ⟨h1, h2⟩ := withI_rises (keys := keys) i (by omega)
  refine rising_ext h1 (uniq_rises (sort_rises _)) fun x => ?_
  rw [h2, h, List.take_length]
  exact ⟨fun h => uniq_mem' (sortN_mem.mem_iff.2 h), fun h => sortN_mem.mem_iff.1 (uniq_mem h)⟩
theorem rk_new (ks : List ByteArray) : (ks.map newR).map rk = newI ks := by rw [List.map_map]; rfl
end

theorem ty116 : Ty Try.prog 116 4 40 (.agg #[.string (⟨#[]⟩), .bool (false), .int .i64 (0), .int .i64 (0)]) true := ty_of (by kernel_rfl) (by kernel_rfl)

set_option maxRecDepth 4000
set_option maxRecDepth 100000 in
set_option maxHeartbeats 4000000 in
theorem rtell_ (s : Nat) (al : Option Addr) (n cl : Nat) (self now req : Int) (b : Nat) (part to : Int) (a : Option Addr) (c : Nat) (l : List RKey) (w : World) (hB : Blk w s [.int .i64 self, .int .i64 now, .int .i64 req, .slice al n cl] 105) (hbt : Blk w b [.int .i64 part, .int .i64 to, .slice a l.length c] 109) (hot : OwnSl w 116 a c l) (hoa : ¬ own a b) (hos : ¬ own a s) (hsb : b ≠ s) (hk : LOk now (l.map rk)) (hrk : ROk l) (h0 : 0 ≤ now ∧ now ≤ 9223372036854775807) (hl : l.length ≤ 4294967295) (hr : 0 ≤ req ∧ req ≤ 1099511627776) :
    Calls Try.prog 62 #[.pointer (some ⟨s, 0, none⟩), .pointer (some ⟨b, 0, none⟩)] w (Ret (fun v w' => ∃ a' c' l', v = .slice a' ((tellP now req (l.map rk)).T.map (msgH self to part)).length c' ∧ OwnSl w' 46 a' c' ((tellP now req (l.map rk)).T.map (msgH self to part)) ∧ (∀ q, own a' q → w.heap.size ≤ q) ∧ Blk w' s [.int .i64 self, .int .i64 now, .int .i64 (tellP now req (l.map rk)).r, .slice al n cl] 105 ∧ l'.map rk = (tellP now req (l.map rk)).L ∧ ROk l' ∧ OwnSl w' 116 a c l' ∧ Keeps (tellS s a) w w')) := by
  have hlr : (l.map rk).length = l.length := List.length_map ..
  refine calls_run (n := 142) Try.func62 rfl rfl rfl ?_
  refine Run.seq ?_
  refine Run.region ?_
  refine RL.val (x_assignSl rfl) ?_
  refine RL.nil ?_
  refine Run.seq ?_
  refine Run.region ?_
  refine RL.val (x_assignI rfl) ?_
  refine RL.nil ?_
  refine Run.seq ?_
  refine Run.seq ?_
  refine Run.region ?_
  refine RL.val (x_assignI rfl) ?_
  refine RL.nil ?_
  refine Run.block ?_
  refine Run.loop (ι := Nat) (fun i ρ' w' => ∃ us : List RKey, Holds ρ' [(0, .pointer (some ⟨s, 0, none⟩)), (1, .pointer (some ⟨b, 0, none⟩)), (5, .int .i64 (((((agedL now (l.map rk)).take i).countP sentI : Nat) : Int))), (6, .int .i64 (((i : Nat) : Int)))] ∧ Keeps (tellS s a) w w' ∧ (Blk w' s [.int .i64 (self), .int .i64 (now), .int .i64 (req), .slice (al) (n) (cl)] 105) ∧ (Blk w' b [.int .i64 (part), .int .i64 (to), .slice (a) ((us).length) (c)] 109) ∧ (OwnSl w' 116 a c (us)) ∧ (¬ own a s) ∧ (¬ own a b) ∧ (∀ q_, own a q_ → q_ < w.heap.size → (tellS s a) q_) ∧ (i ≤ l.length) ∧ (us.length = l.length) ∧ (us.map rk = mixA now (l.map rk) i) ∧ (ROk us)) (fun i => l.length - i) 0 ?_ ?_
  · rw [List.take_zero, List.countP_nil]
    refine ⟨l, ⟨rfl, rfl, rfl, rfl, trivial⟩, (Keeps.refl _ w), hB, hbt, hot, hos, hoa, (fun q_ h_ _ => Or.inr h_), ?_, ?_, ?_, ?_⟩
    · omega
    · rfl
    · exact mixA_zero.symm
    · exact hrk
  clear hB hot hbt
  rintro i ρ_7 w_1 ⟨us, hH_2, K0, hB, hbt, ho_3, pr_4, pr_5, pr_6, hi, hul, hus, hro⟩ ih1
  obtain ⟨ρ₀, rfl⟩ := hH_2.ex
  clear hH_2
  refine Run.seq ?_
  refine Run.seq ?_
  refine Run.region ?_
  refine RL.val (x_moveI rfl) ?_
  refine RL.val (x_moveP rfl) ?_
  refine RL.val (x_nilCheck rfl) ?_
  refine RL.val (x_fld (o' := 2) Try.underlying109 rfl ty106 rfl rfl rfl) ?_
  refine RL.val (x_ld (v := .slice (a) ((us).length) (c)) ty106 rfl rfl (hbt.cl.field (i := 2) rfl)) ?_
  refine RL.val (x_lenSl Try.underlying106 rfl) ?_
  refine RL.val (x_ltI rfl rfl) ?_
  refine RL.nil ?_
  refine Run.cond rfl (fun hc15 => ?_) (fun hc15 => ?_)
  · try simp only [br] at hc15
    refine Run.skip ?_
    refine Run.seq ?_
    refine Run.block ?_
    refine Run.seq ?_
    refine Run.seq ?_
    obtain ⟨x, hx⟩ : ∃ y_, us[i]? = some y_ := ⟨_, List.getElem?_eq_getElem (by omega)⟩
    have hx0 := mixA_get (hus ▸ rk_get hx) (by omega)
    have hsx := sent_i hro hx
    have hxo := hk (rk x) (mem_of_at hx0)
    have hxp : x.sent = true → 0 ≤ x.since ∧ x.since ≤ now := fun e => by
      have h1 := rk_pos e hro hx
      have h2 := hxo.2.2
      rw [rk_yes e] at h1 h2
      exact ⟨h1, h2⟩
    have hcs := cnt_succ (p := sentI) (aged_get (now := now) hx0)
    have hcl := List.countP_le_length (p := sentI) (l := (agedL now (l.map rk)).take i)
    have hct := List.length_take_le i (agedL now (l.map rk))
    obtain ⟨b_10, o_11, x_14, hx_15, ha_12, hc_13⟩ := ho_3.sl.el (i := i) (by omega)
    obtain rfl : x = x_14 := Option.some.inj (hx.symm.trans hx_15)
    obtain ⟨b_16, o_17, x_20, hx_21, ha_18, hc_19⟩ := ho_3.sl.el (i := i) (by omega)
    obtain rfl : x = x_20 := Option.some.inj (hx.symm.trans hx_21)
    refine Run.draw' (m := 24) (by kernel_rfl) rfl ?_
    intro w_8 K_9
    replace hB := hB.ext K_9
    replace hbt := hbt.ext K_9
    replace ho_3 := ho_3.ext K_9
    replace hc_13 := hc_13.ext K_9
    replace hc_19 := hc_19.ext K_9
    replace K0 := K0.ext K_9
    refine RA.take (v := .pointer (some ⟨b, 0, none⟩)) 0 rfl (by kernel_rfl) rfl (by rintro _ rfl; exact (x_moveP rfl)) ?_
    refine RA.take (v := .pointer (some ⟨b, 0, none⟩)) 1 rfl (by kernel_rfl) rfl (by rintro _ rfl; exact (x_nilCheck rfl)) ?_
    refine RA.take (v := .pointer (some ⟨b, 2, none⟩)) 2 rfl (by kernel_rfl) rfl (by rintro _ rfl; exact (x_fld (o' := 2) Try.underlying109 rfl ty106 rfl rfl rfl)) ?_
    refine RA.take (v := .slice (a) ((us).length) (c)) 3 rfl (by kernel_rfl) rfl (by rintro _ rfl; exact (x_ld (v := .slice (a) ((us).length) (c)) ty106 rfl rfl (hbt.cl.field (i := 2) rfl))) ?_
    refine RA.take (v := .int .i64 (((i : Nat) : Int))) 4 rfl (by kernel_rfl) rfl (by rintro _ rfl; exact (x_moveI rfl)) ?_
    refine RA.take (v := .pointer (some ⟨b_10, o_11 + i * 4, none⟩)) 5 rfl (by kernel_rfl) rfl (by rintro _ rfl; exact (x_idxN Try.underlying106 ty116 rfl rfl ha_12 (by omega))) ?_
    refine RA.take (v := .pointer (some ⟨b_10, o_11 + i * 4 + 1, none⟩)) 6 rfl (by kernel_rfl) rfl (by rintro _ rfl; exact (x_fld (o' := o_11 + i * 4 + 1) Try.underlying116 rfl ty4 rfl rfl rfl)) ?_
    refine RA.take (v := .bool ((x).sent)) 7 rfl (by kernel_rfl) rfl (by rintro _ rfl; exact (x_ld ty4 rfl rfl (hc_13.field (i := 1) rfl))) ?_
    refine RA.take (v := .bool ((x).sent)) 8 rfl (by kernel_rfl) rfl (by rintro _ rfl; exact (x_moveB rfl)) ?_
    refine RA.gtake (v := .pointer (some ⟨s, 0, none⟩)) 9 rfl (by kernel_rfl) rfl (wantedT rfl rfl rfl rfl) (fun hg => by rintro _ rfl; exact (x_moveP rfl)) ?_
    refine RA.gtake (v := .pointer (some ⟨s, 0, none⟩)) 10 rfl (by kernel_rfl) rfl (wantedT rfl rfl rfl rfl) (fun hg => by rintro _ rfl; exact (x_nilCheck (gvr hg))) ?_
    refine RA.gtake (v := .pointer (some ⟨s, 1, none⟩)) 11 rfl (by kernel_rfl) rfl (wantedT rfl rfl rfl rfl) (fun hg => by rintro _ rfl; exact (x_fld (o' := 1) Try.underlying105 rfl ty3 rfl (gvr hg) rfl)) ?_
    refine RA.gtake (v := .int .i64 (now)) 12 rfl (by kernel_rfl) rfl (wantedT rfl rfl rfl rfl) (fun hg => by rintro _ rfl; exact (x_ld (v := .int .i64 (now)) ty3 (gvr hg) rfl (hB.cl.field (i := 1) rfl))) ?_
    refine RA.gtake (v := .pointer (some ⟨b, 0, none⟩)) 13 rfl (by kernel_rfl) rfl (wantedT rfl rfl rfl rfl) (fun hg => by rintro _ rfl; exact (x_moveP rfl)) ?_
    refine RA.gtake (v := .pointer (some ⟨b, 0, none⟩)) 14 rfl (by kernel_rfl) rfl (wantedT rfl rfl rfl rfl) (fun hg => by rintro _ rfl; exact (x_nilCheck (gvr hg))) ?_
    refine RA.gtake (v := .pointer (some ⟨b, 2, none⟩)) 15 rfl (by kernel_rfl) rfl (wantedT rfl rfl rfl rfl) (fun hg => by rintro _ rfl; exact (x_fld (o' := 2) Try.underlying109 rfl ty106 rfl (gvr hg) rfl)) ?_
    refine RA.gtake (v := .slice (a) ((us).length) (c)) 16 rfl (by kernel_rfl) rfl (wantedT rfl rfl rfl rfl) (fun hg => by rintro _ rfl; exact (x_ld (v := .slice (a) ((us).length) (c)) ty106 (gvr hg) rfl (hbt.cl.field (i := 2) rfl))) ?_
    refine RA.gtake (v := .int .i64 (((i : Nat) : Int))) 17 rfl (by kernel_rfl) rfl (wantedT rfl rfl rfl rfl) (fun hg => by rintro _ rfl; exact (x_moveI rfl)) ?_
    refine RA.gtake (v := .pointer (some ⟨b_16, o_17 + i * 4, none⟩)) 18 rfl (by kernel_rfl) rfl (wantedT rfl rfl rfl rfl) (fun hg => by rintro _ rfl; exact (x_idxN Try.underlying106 ty116 (gvr hg) (gvr hg) ha_18 (by omega))) ?_
    refine RA.gtake (v := .pointer (some ⟨b_16, o_17 + i * 4 + 3, none⟩)) 19 rfl (by kernel_rfl) rfl (wantedT rfl rfl rfl rfl) (fun hg => by rintro _ rfl; exact (x_fld (o' := o_17 + i * 4 + 3) Try.underlying116 rfl ty3 rfl (gvr hg) rfl)) ?_
    refine RA.gtake (v := .int .i64 ((x).since)) 20 rfl (by kernel_rfl) rfl (wantedT rfl rfl rfl rfl) (fun hg => by rintro _ rfl; exact (x_ld ty3 (gvr hg) rfl (hc_19.field (i := 3) rfl))) ?_
    refine RA.gtake (v := .int .i64 (now - ((x).since))) 21 rfl (by kernel_rfl) rfl (wantedT rfl rfl rfl rfl) (fun hg => by rintro _ rfl; exact (x_sub (gvr hg) (gvr hg) (by have := hxp (by first | exact hg | (simp only [br] at hg; exact hg)); omega) (by have := hxp (by first | exact hg | (simp only [br] at hg; exact hg)); omega))) ?_
    refine RA.gtake (v := .bool (decide (1000 ≤ (now - ((x).since))))) 22 rfl (by kernel_rfl) rfl (wantedT rfl rfl rfl rfl) (fun hg => by rintro _ rfl; exact (x_geI (gvr hg) rfl)) ?_
    refine RA.take (v := .bool (((x).sent) && (decide (1000 ≤ (now - ((x).since)))))) 23 rfl (by kernel_rfl) rfl (by rintro _ rfl; exact (x_and rfl rfl rfl)) ?_
    refine RA.done (by kernel_rfl) ?_
    refine Run.cond rfl (fun hc41 => ?_) (fun hc41 => ?_)
    · try simp only [br] at hc41
      refine Run.region ?_
      refine RL.val (x_moveP rfl) ?_
      refine RL.val (x_nilCheck rfl) ?_
      refine RL.val (x_fld (o' := 2) Try.underlying109 rfl ty106 rfl rfl rfl) ?_
      refine RL.val (x_ld (v := .slice (a) ((us).length) (c)) ty106 rfl rfl (hbt.cl.field (i := 2) rfl)) ?_
      refine RL.val (x_moveI rfl) ?_
      obtain ⟨b_22, o_23, x_26, hx_27, ha_24, hc_25⟩ := ho_3.sl.el (i := i) (by omega)
      obtain rfl : x = x_26 := Option.some.inj (hx.symm.trans hx_27)
      refine RL.val (x_idxN Try.underlying106 ty116 rfl rfl ha_24 (by omega)) ?_
      refine RL.val (x_fld (o' := o_23 + i * 4 + 1) Try.underlying116 rfl ty4 rfl rfl rfl) ?_
      refine RL.st rfl <| St1.storeEl (v := .bool (false)) (off := 1) (i := i) (⟨x.name, false, x.req, x.since⟩ : RKey) ty4 rfl rfl rfl (by simp [Value.cells, Value.oneCell']) ho_3 ha_24 hx_27 rfl (by decide) rfl ?_
      intro w_28 ho_30 K_29
      clear hc_25
      replace hB := hB.keep K_29 pr_4
      replace hbt := hbt.keep K_29 pr_5
      replace K0 := K0.trans K_29 (fun x hlt hx => pr_6 x hx hlt)
      replace ho_3 := ho_30
      clear ho_30
      refine RL.nil ?_
      refine Run.seq ?_
      refine Run.region ?_
      refine RL.val (x_moveP rfl) ?_
      refine RL.val (x_nilCheck rfl) ?_
      refine RL.val (x_fld (o' := 2) Try.underlying109 rfl ty106 rfl rfl rfl) ?_
      refine RL.val (x_ld (v := .slice (a) ((us).length) (c)) ty106 rfl rfl (hbt.cl.field (i := 2) rfl)) ?_
      refine RL.val (x_moveI rfl) ?_
      obtain ⟨b_31, o_32, x_35, hx_36, ha_33, hc_34⟩ := ho_3.sl.el (i := i) (by first | omega | (simp only [List.length_set]; omega))
      obtain rfl : (⟨x.name, false, x.req, x.since⟩ : RKey) = x_35 := Option.some.inj ((get_set_self hx_27).symm.trans hx_36)
      refine RL.val (x_idxN Try.underlying106 ty116 rfl rfl ha_33 (by first | omega | (simp only [List.length_set]; omega))) ?_
      refine RL.val (x_fld (o' := o_32 + i * 4 + 1) Try.underlying116 rfl ty4 rfl rfl rfl) ?_
      refine RL.val (x_ld ty4 rfl rfl (hc_34.field (i := 1) rfl)) ?_
      refine RL.nil ?_
      refine Run.cond rfl (fun hc56 => ?_) (fun hc56 => ?_)
      · skip
        exact absurd hc56 Bool.false_ne_true
      · skip
        refine Run.skip ?_
        refine Run.inBlock ?_
        refine Run.region ?_
        refine RL.val (x_moveI rfl) ?_
        refine RL.val (x_add rfl rfl (by omega) (by omega)) ?_
        refine RL.val (x_assignI rfl) ?_
        refine RL.nil ?_
        have e0 := age_sent hc41.1 (hxp hc41.1).1 hc41.2
        rw [e0, if_neg (by simp [sentI, rk])] at hcs
        have e := mixA_set hx0 e0
        rw [set_len' us i ⟨x.name, false, x.req, x.since⟩] at hbt
        refine ih1 (i + 1) _ _ ?_ (by omega)
        rw [hcs]
        refine ⟨(us.set i ⟨x.name, false, x.req, x.since⟩), ⟨rfl, rfl, rfl, rfl, trivial⟩, K0, hB, hbt, ho_3, pr_4, pr_5, pr_6, ?_, ?_, ?_, ?_⟩
        · omega
        · rw [List.length_set]; exact hul
        · rw [rk_set, hus]; exact e.symm
        · exact hro.set (fun h => absurd h Bool.false_ne_true)
    · try simp only [br] at hc41
      refine Run.skip ?_
      refine Run.seq ?_
      refine Run.region ?_
      refine RL.val (x_moveP rfl) ?_
      refine RL.val (x_nilCheck rfl) ?_
      refine RL.val (x_fld (o' := 2) Try.underlying109 rfl ty106 rfl rfl rfl) ?_
      refine RL.val (x_ld (v := .slice (a) ((us).length) (c)) ty106 rfl rfl (hbt.cl.field (i := 2) rfl)) ?_
      refine RL.val (x_moveI rfl) ?_
      obtain ⟨b_37, o_38, x_41, hx_42, ha_39, hc_40⟩ := ho_3.sl.el (i := i) (by first | omega | (simp only [List.length_set]; omega))
      obtain rfl : x = x_41 := Option.some.inj (hx.symm.trans hx_42)
      refine RL.val (x_idxN Try.underlying106 ty116 rfl rfl ha_39 (by first | omega | (simp only [List.length_set]; omega))) ?_
      refine RL.val (x_fld (o' := o_38 + i * 4 + 1) Try.underlying116 rfl ty4 rfl rfl rfl) ?_
      refine RL.val (x_ld ty4 rfl rfl (hc_40.field (i := 1) rfl)) ?_
      refine RL.nil ?_
      refine Run.cond rfl (fun hc56 => ?_) (fun hc56 => ?_)
      · skip
        refine Run.region ?_
        refine RL.val (x_moveI rfl) ?_
        refine RL.val (x_add rfl rfl (by omega) (by omega)) ?_
        refine RL.val (x_assignI rfl) ?_
        refine RL.nil ?_
        refine Run.inBlock ?_
        refine Run.region ?_
        refine RL.val (x_moveI rfl) ?_
        refine RL.val (x_add rfl rfl (by omega) (by omega)) ?_
        refine RL.val (x_assignI rfl) ?_
        refine RL.nil ?_
        have e0 := age_else (now := now) hc41
        rw [e0, hsx, if_pos (by first | exact hc56 | simpa using hc56)] at hcs
        have e := mixA_same hx0 e0
        refine ih1 (i + 1) _ _ ?_ (by omega)
        rw [hcs]
        refine ⟨us, ⟨rfl, rfl, rfl, rfl, trivial⟩, K0, hB, hbt, ho_3, pr_4, pr_5, pr_6, ?_, ?_, ?_, ?_⟩
        · omega
        · exact hul
        · exact hus.trans e.symm
        · exact hro
      · skip
        refine Run.skip ?_
        refine Run.inBlock ?_
        refine Run.region ?_
        refine RL.val (x_moveI rfl) ?_
        refine RL.val (x_add rfl rfl (by omega) (by omega)) ?_
        refine RL.val (x_assignI rfl) ?_
        refine RL.nil ?_
        have e0 := age_else (now := now) hc41
        rw [e0, hsx, if_neg (by first | exact hc56 | simpa using hc56)] at hcs
        have e := mixA_same hx0 e0
        refine ih1 (i + 1) _ _ ?_ (by omega)
        rw [hcs]
        refine ⟨us, ⟨rfl, rfl, rfl, rfl, trivial⟩, K0, hB, hbt, ho_3, pr_4, pr_5, pr_6, ?_, ?_, ?_, ?_⟩
        · omega
        · exact hul
        · exact hus.trans e.symm
        · exact hro
  · try simp only [br] at hc15
    refine Run.exit rfl ?_
    refine Run.seq ?_
    refine Run.region ?_
    refine RL.val (x_assignSl rfl) ?_
    refine RL.nil ?_
    refine Run.seq ?_
    refine Run.seq ?_
    refine Run.region ?_
    refine RL.val (x_assignI rfl) ?_
    refine RL.nil ?_
    refine Run.block ?_
    refine Run.loop (ι := Nat) (fun q ρ' w' => ∃ am : Option Addr, ∃ cm : Nat, ∃ us : List RKey, Holds ρ' [(0, .pointer (some ⟨s, 0, none⟩)), (1, .pointer (some ⟨b, 0, none⟩)), (5, .int .i64 ((((sdS now req (l.map rk) q).c : Nat) : Int))), (7, .slice (am) (((sdS now req (l.map rk) q).T.map (msgH self to part)).length) (cm)), (8, .int .i64 (((q : Nat) : Int)))] ∧ Keeps (tellS s a) w w' ∧ (Blk w' s [.int .i64 (self), .int .i64 (now), .int .i64 ((sdS now req (l.map rk) q).r), .slice (al) (n) (cl)] 105) ∧ (Blk w' b [.int .i64 (part), .int .i64 (to), .slice (a) ((us).length) (c)] 109) ∧ (OwnSl w' 116 a c (us)) ∧ (OwnSl w' 46 am cm ((sdS now req (l.map rk) q).T.map (msgH self to part))) ∧ (¬ own a s) ∧ (¬ own a b) ∧ (∀ q_, own a q_ → ¬ own am q_) ∧ (∀ q_, own a q_ → q_ < w.heap.size → (tellS s a) q_) ∧ (¬ own am s) ∧ (¬ own am b) ∧ (∀ q_, own am q_ → q_ < w.heap.size → (tellS s a) q_) ∧ (∀ q_, own am q_ → w.heap.size ≤ q_) ∧ (q ≤ l.length) ∧ (us.length = l.length) ∧ (us.map rk = mixS now req (l.map rk) q) ∧ (ROk us)) (fun q => l.length - q) 0 ?_ ?_
    · rw [sdS_c0 (now := now) (r := req) (l := (l.map rk)) (i := i) (by omega), show (sdS now req (l.map rk) 0).r = req from rfl, show (sdS now req (l.map rk) 0).T.map (msgH self to part) = [] from rfl]
      have ho_55 := OwnSl.nil (α := HMsg) w_1 46
      refine ⟨_, _, us, ⟨rfl, rfl, rfl, rfl, rfl, trivial⟩, K0, hB, hbt, ho_3, ho_55, pr_4, pr_5, (fun q_ h1 h2 => (fun q_ h1 _ => own_none q_ h1) q_ h2 h1), pr_6, (own_none s), (own_none b), (fun q_ h1 _ => absurd h1 (own_none q_)), (fun q_ h1 => absurd h1 (own_none q_)), ?_, ?_, ?_, ?_⟩
      · omega
      · exact hul
      · exact hus.trans (mixS_zero (by omega)).symm
      · exact hro
    clear hB hbt ho_3
    clear K0
    rintro q ρ_56 w_43 ⟨am, cm, us, hH_44, K0, hB, hbt, ho_45, ho_46, pr_47, pr_48, pr_49, pr_50, pr_51, pr_52, pr_53, pr_54, hq, hul, hus, hro⟩ ih2
    obtain ⟨ρ₀, rfl⟩ := hH_44.ex
    clear hH_44
    refine Run.seq ?_
    refine Run.seq ?_
    refine Run.region ?_
    refine RL.val (x_moveI rfl) ?_
    refine RL.val (x_moveP rfl) ?_
    refine RL.val (x_nilCheck rfl) ?_
    refine RL.val (x_fld (o' := 2) Try.underlying109 rfl ty106 rfl rfl rfl) ?_
    refine RL.val (x_ld (v := .slice (a) ((us).length) (c)) ty106 rfl rfl (hbt.cl.field (i := 2) rfl)) ?_
    refine RL.val (x_lenSl Try.underlying106 rfl) ?_
    refine RL.val (x_ltI rfl rfl) ?_
    refine RL.val (x_moveB rfl) ?_
    refine RL.gval (wantedT rfl rfl rfl rfl) (fun hg => (x_moveI rfl)) ?_
    refine RL.gval (wantedT rfl rfl rfl rfl) (fun hg => (x_ltI (gvr hg) rfl)) ?_
    refine RL.val (x_and rfl rfl rfl) ?_
    refine RL.nil ?_
    refine Run.cond rfl (fun hc69 => ?_) (fun hc69 => ?_)
    · try simp only [br] at hc69
      refine Run.skip ?_
      refine Run.seq ?_
      refine Run.block ?_
      refine Run.seq ?_
      refine Run.seq ?_
      obtain ⟨y, hy⟩ : ∃ y_, us[q]? = some y_ := ⟨_, List.getElem?_eq_getElem (by omega)⟩
      obtain ⟨hT1, hT2, hT3⟩ := sdS_T (now := now) (r := req) (l := (l.map rk)) (q := q) (by omega)
      have hcw := List.countP_le_length (p := sentI) (l := agedL now (l.map rk))
      rw [aged_len] at hcw
      have hy0 := mixS_get (hus ▸ rk_get hy) (by omega)
      refine Run.region ?_
      refine RL.val (x_moveP rfl) ?_
      refine RL.val (x_nilCheck rfl) ?_
      refine RL.val (x_fld (o' := 2) Try.underlying109 rfl ty106 rfl rfl rfl) ?_
      refine RL.val (x_ld (v := .slice (a) ((us).length) (c)) ty106 rfl rfl (hbt.cl.field (i := 2) rfl)) ?_
      refine RL.val (x_moveI rfl) ?_
      obtain ⟨b_57, o_58, x_61, hx_62, ha_59, hc_60⟩ := ho_45.sl.el (i := q) (by omega)
      obtain rfl : y = x_61 := Option.some.inj (hy.symm.trans hx_62)
      refine RL.val (x_idxN Try.underlying106 ty116 rfl rfl ha_59 (by omega)) ?_
      refine RL.val (x_fld (o' := o_58 + q * 4 + 1) Try.underlying116 rfl ty4 rfl rfl rfl) ?_
      refine RL.val (x_ld ty4 rfl rfl (hc_60.field (i := 1) rfl)) ?_
      refine RL.nil ?_
      refine Run.cond rfl (fun hc79 => ?_) (fun hc79 => ?_)
      · skip
        refine Run.exit rfl ?_
        refine Run.region ?_
        refine RL.val (x_moveI rfl) ?_
        refine RL.val (x_add rfl rfl (by omega) (by omega)) ?_
        refine RL.val (x_assignI rfl) ?_
        refine RL.nil ?_
        have e0 := sdS_skip (r := req) hy0 (.inl (rk_pos (by first | exact hc79 | simpa using hc79) hro hy))
        have e1 := mixS_same (r := req) hy0 (by rw [e0])
        have e2 : (sdS now req (l.map rk) (q + 1)).c = (sdS now req (l.map rk) q).c := by rw [e0]
        have e3 : (sdS now req (l.map rk) (q + 1)).r = (sdS now req (l.map rk) q).r := by rw [e0]
        have e4 : (sdS now req (l.map rk) (q + 1)).T = (sdS now req (l.map rk) q).T := by rw [e0]
        refine ih2 (q + 1) _ _ ?_ (by omega)
        rw [e2, e3, e4]
        refine ⟨_, _, us, ⟨rfl, rfl, rfl, rfl, rfl, trivial⟩, K0, hB, hbt, ho_45, ho_46, pr_47, pr_48, pr_49, pr_50, pr_51, pr_52, pr_53, pr_54, ?_, ?_, ?_, ?_⟩
        · omega
        · exact hul
        · exact hus.trans e1.symm
        · exact hro
      · skip
        refine Run.skip ?_
        refine Run.seq ?_
        refine Run.region ?_
        refine RL.val (x_moveP rfl) ?_
        refine RL.val (x_moveP rfl) ?_
        refine RL.val (x_nilCheck rfl) ?_
        refine RL.val (x_fld (o' := 2) Try.underlying105 rfl ty3 rfl rfl rfl) ?_
        refine RL.val (x_ld (v := .int .i64 ((sdS now req (l.map rk) q).r)) ty3 rfl rfl (hB.cl.field (i := 2) rfl)) ?_
        refine RL.val (x_add rfl rfl (by omega) (by omega)) ?_
        refine RL.val (x_nilCheck rfl) ?_
        refine RL.val (x_fld (o' := 2) Try.underlying105 rfl ty3 rfl rfl rfl) ?_
        refine RL.st rfl <| St1.store (v := .int .i64 (((sdS now req (l.map rk) q).r) + 1)) ty3 rfl rfl rfl (by simp [Value.cells, Value.oneCell']) hB (by simp) ?_
        intro w_63 hB_ K_64
        have hB' : Blk w_63 s [.int .i64 (self), .int .i64 (now), .int .i64 (((sdS now req (l.map rk) q).r) + 1), .slice (al) (n) (cl)] 105 := hB_
        clear hB_
        replace hbt := hbt.keep K_64 (by simp only [one]; omega)
        replace ho_45 := ho_45.keepO K_64 (fun q_ hq_ eq_ => pr_47 (by simp only [one] at eq_; rw [← eq_]; exact hq_))
        replace ho_46 := ho_46.keepO K_64 (fun q_ hq_ eq_ => pr_51 (by simp only [one] at eq_; rw [← eq_]; exact hq_))
        replace K0 := K0.trans K_64 (fun x _ hx => by simp only [one] at hx; subst hx; exact (Or.inl rfl))
        replace hB := hB'
        clear hB'
        refine RL.nil ?_
        refine Run.seq ?_
        obtain ⟨b_67, o_68, x_71, hx_72, ha_69, hc_70⟩ := ho_45.sl.el (i := q) (by omega)
        obtain rfl : y = x_71 := Option.some.inj (hy.symm.trans hx_72)
        obtain ⟨b_73, o_74, x_77, hx_78, ha_75, hc_76⟩ := ho_45.sl.el (i := q) (by omega)
        obtain rfl : y = x_77 := Option.some.inj (hy.symm.trans hx_78)
        refine Run.drawT [23] (m := 24) (by kernel_rfl) rfl ?_
        intro w_65 K_66
        replace hB := hB.ext K_66
        replace hbt := hbt.ext K_66
        replace ho_45 := ho_45.ext K_66
        replace ho_46 := ho_46.ext K_66
        replace hc_70 := hc_70.ext K_66
        replace hc_76 := hc_76.ext K_66
        replace K0 := K0.ext K_66
        refine ⟨fun w' => Blk w' s [.int .i64 (self), .int .i64 (now), .int .i64 (((sdS now req (l.map rk) q).r) + 1), .slice (al) (n) (cl)] 105 ∧ Blk w' b [.int .i64 (part), .int .i64 (to), .slice (a) ((us).length) (c)] 109 ∧ Cl w' b_67 (o_68 + q * 4) (cellsOf y) ∧ Cl w' b_73 (o_74 + q * 4) (cellsOf y) ∧ True, ?_⟩
        refine RT.takeP (v := .pointer (some ⟨b, 0, none⟩)) 0 rfl (by kernel_rfl) (.inr ⟨hB, hbt, hc_70, hc_76, trivial⟩) (fun _ => (x_moveP rfl)) ?_
        refine RT.takeP (v := .pointer (some ⟨b, 0, none⟩)) 1 rfl (by kernel_rfl) (.inr ⟨hB, hbt, hc_70, hc_76, trivial⟩) (fun _ => (x_nilCheck rfl)) ?_
        refine RT.takeP (v := .pointer (some ⟨b, 2, none⟩)) 2 rfl (by kernel_rfl) (.inr ⟨hB, hbt, hc_70, hc_76, trivial⟩) (fun _ => (x_fld (o' := 2) Try.underlying109 rfl ty106 rfl rfl rfl)) ?_
        refine RT.take (v := .slice (a) ((us).length) (c)) 3 rfl (by kernel_rfl) ⟨hB, hbt, hc_70, hc_76, trivial⟩ (by rintro _ ⟨hB, hbt, hc_70, hc_76, -⟩; exact (x_ld (v := .slice (a) ((us).length) (c)) ty106 rfl rfl (hbt.cl.field (i := 2) rfl))) ?_
        refine RT.takeP (v := .int .i64 (((q : Nat) : Int))) 4 rfl (by kernel_rfl) (.inr ⟨hB, hbt, hc_70, hc_76, trivial⟩) (fun _ => (x_moveI rfl)) ?_
        refine RT.takeP (v := .pointer (some ⟨b, 0, none⟩)) 5 rfl (by kernel_rfl) (.inr ⟨hB, hbt, hc_70, hc_76, trivial⟩) (fun _ => (x_moveP rfl)) ?_
        refine RT.takeP (v := .pointer (some ⟨b, 0, none⟩)) 6 rfl (by kernel_rfl) (.inr ⟨hB, hbt, hc_70, hc_76, trivial⟩) (fun _ => (x_nilCheck rfl)) ?_
        refine RT.takeP (v := .pointer (some ⟨b, 2, none⟩)) 7 rfl (by kernel_rfl) (.inr ⟨hB, hbt, hc_70, hc_76, trivial⟩) (fun _ => (x_fld (o' := 2) Try.underlying109 rfl ty106 rfl rfl rfl)) ?_
        refine RT.take (v := .slice (a) ((us).length) (c)) 8 rfl (by kernel_rfl) ⟨hB, hbt, hc_70, hc_76, trivial⟩ (by rintro _ ⟨hB, hbt, hc_70, hc_76, -⟩; exact (x_ld (v := .slice (a) ((us).length) (c)) ty106 rfl rfl (hbt.cl.field (i := 2) rfl))) ?_
        refine RT.takeP (v := .int .i64 (((q : Nat) : Int))) 9 rfl (by kernel_rfl) (.inr ⟨hB, hbt, hc_70, hc_76, trivial⟩) (fun _ => (x_moveI rfl)) ?_
        refine RT.takeP (v := .pointer (some ⟨b_67, o_68 + q * 4, none⟩)) 10 rfl (by kernel_rfl) (.inr ⟨hB, hbt, hc_70, hc_76, trivial⟩) (fun _ => (x_idxN Try.underlying106 ty116 rfl rfl ha_69 (by omega))) ?_
        refine RT.takeP (v := .pointer (some ⟨b_67, o_68 + q * 4 + 0, none⟩)) 11 rfl (by kernel_rfl) (.inr ⟨hB, hbt, hc_70, hc_76, trivial⟩) (fun _ => (x_fld (o' := o_68 + q * 4 + 0) Try.underlying116 rfl ty9 rfl rfl rfl)) ?_
        refine RT.take (v := .string ((y).name)) 12 rfl (by kernel_rfl) ⟨hB, hbt, hc_70, hc_76, trivial⟩ (by rintro _ ⟨hB, hbt, hc_70, hc_76, -⟩; exact (x_ld ty9 rfl rfl (hc_70.field (i := 0) rfl))) ?_
        refine RT.takeP (v := .pointer (some ⟨s, 0, none⟩)) 13 rfl (by kernel_rfl) (.inr ⟨hB, hbt, hc_70, hc_76, trivial⟩) (fun _ => (x_moveP rfl)) ?_
        refine RT.takeP (v := .pointer (some ⟨s, 0, none⟩)) 14 rfl (by kernel_rfl) (.inr ⟨hB, hbt, hc_70, hc_76, trivial⟩) (fun _ => (x_nilCheck rfl)) ?_
        refine RT.takeP (v := .pointer (some ⟨s, 2, none⟩)) 15 rfl (by kernel_rfl) (.inr ⟨hB, hbt, hc_70, hc_76, trivial⟩) (fun _ => (x_fld (o' := 2) Try.underlying105 rfl ty3 rfl rfl rfl)) ?_
        refine RT.take (v := .int .i64 (((sdS now req (l.map rk) q).r) + 1)) 16 rfl (by kernel_rfl) ⟨hB, hbt, hc_70, hc_76, trivial⟩ (by rintro _ ⟨hB, hbt, hc_70, hc_76, -⟩; exact (x_ld (v := .int .i64 (((sdS now req (l.map rk) q).r) + 1)) ty3 rfl rfl (hB.cl.field (i := 2) rfl))) ?_
        refine RT.takeP (v := .pointer (some ⟨s, 0, none⟩)) 17 rfl (by kernel_rfl) (.inr ⟨hB, hbt, hc_70, hc_76, trivial⟩) (fun _ => (x_moveP rfl)) ?_
        refine RT.takeP (v := .pointer (some ⟨s, 0, none⟩)) 18 rfl (by kernel_rfl) (.inr ⟨hB, hbt, hc_70, hc_76, trivial⟩) (fun _ => (x_nilCheck rfl)) ?_
        refine RT.takeP (v := .pointer (some ⟨s, 1, none⟩)) 19 rfl (by kernel_rfl) (.inr ⟨hB, hbt, hc_70, hc_76, trivial⟩) (fun _ => (x_fld (o' := 1) Try.underlying105 rfl ty3 rfl rfl rfl)) ?_
        refine RT.take (v := .int .i64 (now)) 20 rfl (by kernel_rfl) ⟨hB, hbt, hc_70, hc_76, trivial⟩ (by rintro _ ⟨hB, hbt, hc_70, hc_76, -⟩; exact (x_ld (v := .int .i64 (now)) ty3 rfl rfl (hB.cl.field (i := 1) rfl))) ?_
        refine RT.takeP (v := .agg #[.string ((y).name), .bool (true), .int .i64 (((sdS now req (l.map rk) q).r) + 1), .int .i64 (now)]) 21 rfl (by kernel_rfl) (.inr ⟨hB, hbt, hc_70, hc_76, trivial⟩) (fun _ => (x_build (cells := #[.string ((y).name), .bool (true), .int .i64 (((sdS now req (l.map rk) q).r) + 1), .int .i64 (now)]) (by kernel_rfl))) ?_
        refine RT.takeP (v := .pointer (some ⟨b_73, o_74 + q * 4, none⟩)) 22 rfl (by kernel_rfl) (.inr ⟨hB, hbt, hc_70, hc_76, trivial⟩) (fun _ => (x_idxN Try.underlying106 ty116 rfl rfl ha_75 (by omega))) ?_
        refine RT.st 23 rfl (by kernel_rfl) rfl <| St1.storeEl (v := .agg #[.string ((y).name), .bool (true), .int .i64 (((sdS now req (l.map rk) q).r) + 1), .int .i64 (now)]) (off := 0) (i := q) (⟨(y).name, true, ((sdS now req (l.map rk) q).r) + 1, now⟩ : RKey) ty116 rfl rfl rfl (by simp [Value.cells, Value.oneCell']) ho_45 ha_75 hx_78 rfl (by decide) rfl ?_
        intro w_79 ho_81 K_80
        clear hc_70
        clear hc_76
        replace hB := hB.keep K_80 pr_47
        replace hbt := hbt.keep K_80 pr_48
        replace ho_46 := ho_46.keepO K_80 (fun q_ h1 h2 => pr_49 q_ h2 h1)
        replace K0 := K0.trans K_80 (fun x hlt hx => pr_50 x hx hlt)
        replace ho_45 := ho_81
        clear ho_81
        refine ⟨.inl (by kernel_rfl), ?_⟩
        refine RT.done (by kernel_rfl) ?_
        refine Run.seq ?_
        have hTm : ((sdS now req (l.map rk) q).T.map (msgH self to part)).length ≤ 4 := by rw [List.length_map]; exact hT3
        obtain ⟨b_84, o_85, x_88, hx_89, ha_86, hc_87⟩ := ho_45.sl.el (i := q) (by first | omega | (simp only [List.length_set]; omega))
        obtain rfl : (⟨(y).name, true, ((sdS now req (l.map rk) q).r) + 1, now⟩ : RKey) = x_88 := Option.some.inj ((get_set_self hx_78).symm.trans hx_89)
        refine Run.drawT [] (m := 29) (by kernel_rfl) rfl ?_
        intro w_82 K_83
        replace hB := hB.ext K_83
        replace hbt := hbt.ext K_83
        replace ho_45 := ho_45.ext K_83
        replace ho_46 := ho_46.ext K_83
        replace hc_87 := hc_87.ext K_83
        replace K0 := K0.ext K_83
        refine ⟨fun w' => Blk w' s [.int .i64 (self), .int .i64 (now), .int .i64 (((sdS now req (l.map rk) q).r) + 1), .slice (al) (n) (cl)] 105 ∧ Blk w' b [.int .i64 (part), .int .i64 (to), .slice (a) ((us).length) (c)] 109 ∧ Cl w' b_84 (o_85 + q * 4) (cellsOf (⟨(y).name, true, ((sdS now req (l.map rk) q).r) + 1, now⟩ : RKey)) ∧ True, ?_⟩
        refine RT.takeP (v := .slice (am) (((sdS now req (l.map rk) q).T.map (msgH self to part)).length) (cm)) 0 rfl (by kernel_rfl) (.inr ⟨hB, hbt, hc_87, trivial⟩) (fun _ => (x_moveSl rfl)) ?_
        refine RT.takeP (v := .pointer (some ⟨s, 0, none⟩)) 1 rfl (by kernel_rfl) (.inr ⟨hB, hbt, hc_87, trivial⟩) (fun _ => (x_moveP rfl)) ?_
        refine RT.takeP (v := .pointer (some ⟨s, 0, none⟩)) 2 rfl (by kernel_rfl) (.inr ⟨hB, hbt, hc_87, trivial⟩) (fun _ => (x_nilCheck rfl)) ?_
        refine RT.takeP (v := .pointer (some ⟨s, 0, none⟩)) 3 rfl (by kernel_rfl) (.inr ⟨hB, hbt, hc_87, trivial⟩) (fun _ => (x_fld (o' := 0) Try.underlying105 rfl ty3 rfl rfl rfl)) ?_
        refine RT.take (v := .int .i64 (self)) 4 rfl (by kernel_rfl) ⟨hB, hbt, hc_87, trivial⟩ (by rintro _ ⟨hB, hbt, hc_87, -⟩; exact (x_ld (v := .int .i64 (self)) ty3 rfl rfl (hB.cl.field (i := 0) rfl))) ?_
        refine RT.takeP (v := .pointer (some ⟨b, 0, none⟩)) 5 rfl (by kernel_rfl) (.inr ⟨hB, hbt, hc_87, trivial⟩) (fun _ => (x_moveP rfl)) ?_
        refine RT.takeP (v := .pointer (some ⟨b, 0, none⟩)) 6 rfl (by kernel_rfl) (.inr ⟨hB, hbt, hc_87, trivial⟩) (fun _ => (x_nilCheck rfl)) ?_
        refine RT.takeP (v := .pointer (some ⟨b, 1, none⟩)) 7 rfl (by kernel_rfl) (.inr ⟨hB, hbt, hc_87, trivial⟩) (fun _ => (x_fld (o' := 1) Try.underlying109 rfl ty3 rfl rfl rfl)) ?_
        refine RT.take (v := .int .i64 (to)) 8 rfl (by kernel_rfl) ⟨hB, hbt, hc_87, trivial⟩ (by rintro _ ⟨hB, hbt, hc_87, -⟩; exact (x_ld (v := .int .i64 (to)) ty3 rfl rfl (hbt.cl.field (i := 1) rfl))) ?_
        refine RT.takeP (v := .pointer (some ⟨s, 0, none⟩)) 9 rfl (by kernel_rfl) (.inr ⟨hB, hbt, hc_87, trivial⟩) (fun _ => (x_moveP rfl)) ?_
        refine RT.takeP (v := .pointer (some ⟨s, 0, none⟩)) 10 rfl (by kernel_rfl) (.inr ⟨hB, hbt, hc_87, trivial⟩) (fun _ => (x_nilCheck rfl)) ?_
        refine RT.takeP (v := .pointer (some ⟨s, 2, none⟩)) 11 rfl (by kernel_rfl) (.inr ⟨hB, hbt, hc_87, trivial⟩) (fun _ => (x_fld (o' := 2) Try.underlying105 rfl ty3 rfl rfl rfl)) ?_
        refine RT.take (v := .int .i64 (((sdS now req (l.map rk) q).r) + 1)) 12 rfl (by kernel_rfl) ⟨hB, hbt, hc_87, trivial⟩ (by rintro _ ⟨hB, hbt, hc_87, -⟩; exact (x_ld (v := .int .i64 (((sdS now req (l.map rk) q).r) + 1)) ty3 rfl rfl (hB.cl.field (i := 2) rfl))) ?_
        refine RT.takeP (v := .pointer (some ⟨b, 0, none⟩)) 13 rfl (by kernel_rfl) (.inr ⟨hB, hbt, hc_87, trivial⟩) (fun _ => (x_moveP rfl)) ?_
        refine RT.takeP (v := .pointer (some ⟨b, 0, none⟩)) 14 rfl (by kernel_rfl) (.inr ⟨hB, hbt, hc_87, trivial⟩) (fun _ => (x_nilCheck rfl)) ?_
        refine RT.takeP (v := .pointer (some ⟨b, 2, none⟩)) 15 rfl (by kernel_rfl) (.inr ⟨hB, hbt, hc_87, trivial⟩) (fun _ => (x_fld (o' := 2) Try.underlying109 rfl ty106 rfl rfl rfl)) ?_
        refine RT.take (v := .slice (a) ((us).length) (c)) 16 rfl (by kernel_rfl) ⟨hB, hbt, hc_87, trivial⟩ (by rintro _ ⟨hB, hbt, hc_87, -⟩; exact (x_ld (v := .slice (a) ((us).length) (c)) ty106 rfl rfl (hbt.cl.field (i := 2) rfl))) ?_
        refine RT.takeP (v := .int .i64 (((q : Nat) : Int))) 17 rfl (by kernel_rfl) (.inr ⟨hB, hbt, hc_87, trivial⟩) (fun _ => (x_moveI rfl)) ?_
        refine RT.takeP (v := .pointer (some ⟨b_84, o_85 + q * 4, none⟩)) 18 rfl (by kernel_rfl) (.inr ⟨hB, hbt, hc_87, trivial⟩) (fun _ => (x_idxN Try.underlying106 ty116 rfl rfl ha_86 (by first | omega | (simp only [List.length_set]; omega)))) ?_
        refine RT.takeP (v := .pointer (some ⟨b_84, o_85 + q * 4 + 0, none⟩)) 19 rfl (by kernel_rfl) (.inr ⟨hB, hbt, hc_87, trivial⟩) (fun _ => (x_fld (o' := o_85 + q * 4 + 0) Try.underlying116 rfl ty9 rfl rfl rfl)) ?_
        refine RT.take (v := .string (((⟨(y).name, true, ((sdS now req (l.map rk) q).r) + 1, now⟩ : RKey)).name)) 20 rfl (by kernel_rfl) ⟨hB, hbt, hc_87, trivial⟩ (by rintro _ ⟨hB, hbt, hc_87, -⟩; exact (x_ld ty9 rfl rfl (hc_87.field (i := 0) rfl))) ?_
        refine RT.takeP (v := .pointer (some ⟨b, 0, none⟩)) 21 rfl (by kernel_rfl) (.inr ⟨hB, hbt, hc_87, trivial⟩) (fun _ => (x_moveP rfl)) ?_
        refine RT.takeP (v := .pointer (some ⟨b, 0, none⟩)) 22 rfl (by kernel_rfl) (.inr ⟨hB, hbt, hc_87, trivial⟩) (fun _ => (x_nilCheck rfl)) ?_
        refine RT.takeP (v := .pointer (some ⟨b, 0, none⟩)) 23 rfl (by kernel_rfl) (.inr ⟨hB, hbt, hc_87, trivial⟩) (fun _ => (x_fld (o' := 0) Try.underlying109 rfl ty3 rfl rfl rfl)) ?_
        refine RT.take (v := .int .i64 (part)) 24 rfl (by kernel_rfl) ⟨hB, hbt, hc_87, trivial⟩ (by rintro _ ⟨hB, hbt, hc_87, -⟩; exact (x_ld (v := .int .i64 (part)) ty3 rfl rfl (hbt.cl.field (i := 0) rfl))) ?_
        refine RT.takeP (v := .agg #[.int .i64 (10), .int .i64 (self), .int .i64 (to), .int .i64 (((sdS now req (l.map rk) q).r) + 1), .string (((⟨(y).name, true, ((sdS now req (l.map rk) q).r) + 1, now⟩ : RKey)).name), .slice (none) (0) (0), .slice (none) (0) (0), .slice (none) (0) (0), .int .i64 (0), .int .i64 (part), .int .i64 (0), .int .i64 (0), .int .i64 (0), .int .i64 (0), .slice (none) (0) (0), .slice (none) (0) (0), .slice (none) (0) (0)]) 25 rfl (by kernel_rfl) (.inr ⟨hB, hbt, hc_87, trivial⟩) (fun _ => (x_build (cells := #[.int .i64 (10), .int .i64 (self), .int .i64 (to), .int .i64 (((sdS now req (l.map rk) q).r) + 1), .string (((⟨(y).name, true, ((sdS now req (l.map rk) q).r) + 1, now⟩ : RKey)).name), .slice (none) (0) (0), .slice (none) (0) (0), .slice (none) (0) (0), .int .i64 (0), .int .i64 (part), .int .i64 (0), .int .i64 (0), .int .i64 (0), .int .i64 (0), .slice (none) (0) (0), .slice (none) (0) (0), .slice (none) (0) (0)]) (by kernel_rfl))) ?_
        refine RT.st 26 rfl (by kernel_rfl) rfl <| St1.buildSlice ([(⟨10, self, to, ((sdS now req (l.map rk) q).r) + 1, ((⟨(y).name, true, ((sdS now req (l.map rk) q).r) + 1, now⟩ : RKey)).name, part⟩ : HMsg)] : List HMsg) Try.underlying31 ty46 rfl rfl (by first | decide | (simp [Enc.size])) ?_
        intro b_90 w_91 hl_94 ho_93 K_92
        have pr_95 : ¬ own (some ⟨b_90, 0, none⟩) s := notNew (ge_new hl_94) hB.lt
        have pr_96 : ¬ own (some ⟨b_90, 0, none⟩) b := notNew (ge_new hl_94) hbt.lt
        have pr_97 : ∀ q_, own (some ⟨b_90, 0, none⟩) q_ → ¬ own a q_ := apartNew (ge_new hl_94) ho_45.own_lt
        have pr_98 : ∀ q_, own (some ⟨b_90, 0, none⟩) q_ → ¬ own am q_ := apartNew (ge_new hl_94) ho_46.own_lt
        have pg_99 : ∀ q_, own (some ⟨b_90, 0, none⟩) q_ → q_ < w.heap.size → (tellS s a) q_ := fun q_ h hlt => absurd (Nat.le_trans K0.size ((ge_new hl_94) q_ h)) (by omega)
        have pw_100 : ∀ q_, own (some ⟨b_90, 0, none⟩) q_ → w.heap.size ≤ q_ := fun q_ h => Nat.le_trans K0.size ((ge_new hl_94) q_ h)
        clear hl_94
        replace hB := hB.ext K_92
        replace hbt := hbt.ext K_92
        replace ho_45 := ho_45.ext K_92
        replace ho_46 := ho_46.ext K_92
        replace hc_87 := hc_87.ext K_92
        replace K0 := K0.ext K_92
        refine ⟨.inr ⟨hB, hbt, hc_87, trivial⟩, ?_⟩
        refine RT.st 27 rfl (by kernel_rfl) rfl <| St1.append (xs := (sdS now req (l.map rk) q).T.map (msgH self to part)) (ys := ([(⟨10, self, to, ((sdS now req (l.map rk) q).r) + 1, ((⟨(y).name, true, ((sdS now req (l.map rk) q).r) + 1, now⟩ : RKey)).name, part⟩ : HMsg)] : List HMsg)) Try.underlying31 ty46 rfl rfl rfl ho_46 ho_93.sl (by first | omega | (simp only [lr]; omega)) (by decide) ?_
        intro a_101 c_102 w_103 ho_104 K_105 hm_106 hrm_107
        have pr_108 : ¬ own a_101 s := hm_106.not pr_51 hB.lt
        have pr_109 : ¬ own a_101 b := hm_106.not pr_52 hbt.lt
        have pr_110 : ∀ q_, own a_101 q_ → ¬ own a q_ := hm_106.apart (fun q_ h1 h2 => pr_49 q_ h2 h1) ho_45.own_lt
        have pr_111 : ∀ q_, own a_101 q_ → ¬ own (some ⟨b_90, 0, none⟩) q_ := hm_106.apart (fun q_ h1 h2 => pr_98 q_ h2 h1) ho_93.own_lt
        have pg_112 : ∀ q_, own a_101 q_ → q_ < w.heap.size → (tellS s a) q_ := hm_106.inS pr_53 K0.size
        have pw_113 : ∀ q_, own a_101 q_ → w.heap.size ≤ q_ := hm_106.ge pr_54 K0.size
        replace hB := hB.keep K_105 pr_51
        replace hbt := hbt.keep K_105 pr_52
        replace ho_45 := ho_45.keepO K_105 pr_49
        replace hc_87 := hc_87.keep K_105 (fun h => pr_49 _ ((own_sub _) _ ha_86) h)
        replace ho_93 := ho_93.keepO K_105 pr_98
        replace K0 := K0.trans K_105 (fun x hlt hx => pr_53 x hx hlt)
        clear hm_106
        clear hrm_107
        refine ⟨.inr ⟨hB, hbt, hc_87, trivial⟩, ?_⟩
        refine RT.takeP (v := .slice (a_101) ((((sdS now req (l.map rk) q).T.map (msgH self to part)) ++ ([(⟨10, self, to, ((sdS now req (l.map rk) q).r) + 1, ((⟨(y).name, true, ((sdS now req (l.map rk) q).r) + 1, now⟩ : RKey)).name, part⟩ : HMsg)] : List HMsg)).length) (c_102)) 28 rfl (by kernel_rfl) (.inr ⟨hB, hbt, hc_87, trivial⟩) (fun _ => (x_assignSl rfl)) ?_
        refine RT.done (by kernel_rfl) ?_
        refine Run.region ?_
        refine RL.val (x_moveI rfl) ?_
        refine RL.val (x_add rfl rfl (by omega) (by omega)) ?_
        refine RL.val (x_assignI rfl) ?_
        refine RL.nil ?_
        refine Run.inBlock ?_
        refine Run.region ?_
        refine RL.val (x_moveI rfl) ?_
        refine RL.val (x_add rfl rfl (by omega) (by omega)) ?_
        refine RL.val (x_assignI rfl) ?_
        refine RL.nil ?_
        have e0 := sdS_send (r := req) hy0 (by rw [rk_no (by simpa using hc79)]; omega)
        have e1 := mixS_set (r := req) (y := ⟨y.name, (sdS now req (l.map rk) q).r + 1, now⟩) hy0 (by rw [e0]; rfl)
        have e2 : (sdS now req (l.map rk) (q + 1)).c = (sdS now req (l.map rk) q).c + 1 := by rw [e0]
        have e3 : (sdS now req (l.map rk) (q + 1)).r = (sdS now req (l.map rk) q).r + 1 := by rw [e0]
        have e4 : (sdS now req (l.map rk) (q + 1)).T.map (msgH self to part) = (sdS now req (l.map rk) q).T.map (msgH self to part) ++ [msgH self to part ⟨y.name, (sdS now req (l.map rk) q).r + 1, now⟩] := by rw [e0, List.map_append]; rfl
        rw [set_len' us q ⟨y.name, true, (sdS now req (l.map rk) q).r + 1, now⟩] at hbt
        refine ih2 (q + 1) _ _ ?_ (by omega)
        rw [e2, e3, e4]
        refine ⟨_, _, (us.set q ⟨y.name, true, (sdS now req (l.map rk) q).r + 1, now⟩), ⟨rfl, rfl, rfl, rfl, rfl, trivial⟩, K0, hB, hbt, ho_45, ho_104, pr_47, pr_48, (fun q_ h1 h2 => pr_110 q_ h2 h1), pr_50, pr_108, pr_109, pg_112, pw_113, ?_, ?_, ?_, ?_⟩
        · omega
        · rw [List.length_set]; exact hul
        · rw [rk_set, hus]; exact e1.symm
        · exact hro.set (fun _ => by show (0 : Int) ≤ now; omega)
    · try simp only [br] at hc69
      refine Run.exit rfl ?_
      refine Run.seq ?_
      refine Run.region ?_
      refine RL.val (x_moveSl rfl) ?_
      refine RL.val (x_assignSl rfl) ?_
      refine RL.nil ?_
      refine Run.ret1 (v := .slice (am) (((sdS now req (l.map rk) q).T.map (msgH self to part)).length) (cm)) Try.func62 rfl rfl ?_
      obtain ⟨hz1, hz2, hz3⟩ := sd_stop (now := now) (r := req) (l := (l.map rk)) (q := q) (by rw [hlr]; omega) (by rw [hlr]; omega)
      rw [hz3] at ho_46 ⊢
      rw [hz2] at hB
      exact ⟨_, rfl, am, cm, us, rfl, ho_46, pr_54, hB, by rw [hus, hz1], hro, ho_45, K0⟩

set_option maxRecDepth 100000 in
set_option maxHeartbeats 4000000 in
theorem with_ (a : Option Addr) (ks : List ByteArray) (c : Nat) (nm : ByteArray) (w : World) (ho : OwnSl w 116 a c (ks.map newR)) (hl : ks.length ≤ 1048576) :
    Calls Try.prog 56 #[.slice (a) ((ks.map newR).length) (c), .string (nm)] w (Ret (fun v w' => ∃ a' c', v = .slice a' ((withP nm ks).map newR).length c' ∧ OwnSl w' 116 a' c' ((withP nm ks).map newR) ∧ MovedS w (own a) (own a') ∧ Ext w w')) := by
  have hkl : (ks.map newR).length = ks.length := List.length_map ..
  refine calls_run (n := 53) Try.func56 rfl rfl rfl ?_
  refine Run.seq ?_
  refine Run.region ?_
  refine RL.val (x_assignSl rfl) ?_
  refine RL.nil ?_
  refine Run.seq ?_
  refine Run.region ?_
  refine RL.val (x_assignSl rfl) ?_
  refine RL.nil ?_
  refine Run.seq ?_
  refine Run.region ?_
  refine RL.val (x_assignB rfl) ?_
  refine RL.nil ?_
  refine Run.seq ?_
  refine Run.seq ?_
  refine Run.region ?_
  refine RL.val (x_assignI rfl) ?_
  refine RL.nil ?_
  refine Run.block ?_
  refine Run.loop (ι := Nat) (fun i ρ' w' => ∃ am : Option Addr, ∃ cm : Nat, Holds ρ' [(0, .slice (a) ((ks.map newR).length) (c)), (1, .string (nm)), (5, .slice (am) (((wiI nm ks i).1.map newR).length) (cm)), (6, .bool ((wiI nm ks i).2)), (7, .int .i64 (((i : Nat) : Int)))] ∧ Ext w w' ∧ (OwnSl w' 116 (a) (c) (ks.map newR)) ∧ (OwnSl w' 116 am cm ((wiI nm ks i).1.map newR)) ∧ (∀ q_, own am q_ → ¬ own a q_) ∧ (∀ q_, own am q_ → w.heap.size ≤ q_) ∧ (i ≤ ks.length) ∧ (∀ j x_, j < i → ks[j]? = some x_ → x_ ≠ nm)) (fun i => ks.length - i) 0 ?_ ?_
  · rw [show (wiI nm ks 0).1.map newR = [] from rfl, show (wiI nm ks 0).2 = false from rfl]
    have ho_6 := OwnSl.nil (α := RKey) w 116
    refine ⟨_, _, ⟨rfl, rfl, rfl, rfl, rfl, trivial⟩, (Keeps.refl _ w), ho, ho_6, (fun q_ h1 _ => own_none q_ h1), (fun q_ h1 => absurd h1 (own_none q_)), ?_, ?_⟩
    · omega
    · exact fun j x h => absurd h (by omega)
  clear ho
  rintro i ρ_7 w_1 ⟨am, cm, hH_2, K0, ho, ho_3, pr_4, pr_5, hi, hno⟩ ih1
  obtain ⟨ρ₀, rfl⟩ := hH_2.ex
  clear hH_2
  refine Run.seq ?_
  refine Run.seq ?_
  refine Run.region ?_
  refine RL.val (x_moveI rfl) ?_
  refine RL.val (x_moveSl rfl) ?_
  refine RL.val (x_lenSl Try.underlying106 rfl) ?_
  refine RL.val (x_ltI rfl rfl) ?_
  refine RL.nil ?_
  refine Run.cond rfl (fun hc11 => ?_) (fun hc11 => ?_)
  · try simp only [br] at hc11
    refine Run.skip ?_
    refine Run.seq ?_
    refine Run.block ?_
    refine Run.seq ?_
    refine Run.seq ?_
    obtain ⟨x, hx⟩ : ∃ y_, (ks.map newR)[i]? = some y_ := ⟨_, List.getElem?_eq_getElem (by omega)⟩
    obtain ⟨hx0, hxe⟩ := newR_get hx
    have hwm : ((wiI nm ks i).1.map newR).length ≤ i + 1 := by rw [List.length_map]; exact (wi_len i (by omega)).1
    refine Run.region ?_
    refine RL.val (x_moveSl rfl) ?_
    refine RL.val (x_moveI rfl) ?_
    obtain ⟨b_8, o_9, x_12, hx_13, ha_10, hc_11⟩ := ho.sl.el (i := i) (by first | omega | (simp only [List.length_set]; omega))
    obtain rfl : x = x_12 := Option.some.inj (hx.symm.trans hx_13)
    refine RL.val (x_idxN Try.underlying106 ty116 rfl rfl ha_10 (by first | omega | (simp only [List.length_set]; omega))) ?_
    refine RL.val (x_fld (o' := o_9 + i * 4 + 0) Try.underlying116 rfl ty9 rfl rfl rfl) ?_
    refine RL.val (x_ld ty9 rfl rfl (hc_11.field (i := 0) rfl)) ?_
    refine RL.val (x_moveS rfl) ?_
    refine RL.val (x_eqS rfl rfl) ?_
    refine RL.nil ?_
    refine Run.cond rfl (fun hc20 => ?_) (fun hc20 => ?_)
    · try simp only [br] at hc20
      refine Run.seq ?_
      refine Run.region ?_
      refine RL.val (x_moveSl rfl) ?_
      refine RL.val (x_assignSl rfl) ?_
      refine RL.nil ?_
      refine Run.ret1 (v := .slice (a) ((ks.map newR).length) (c)) Try.func56 rfl rfl ?_
      have e := withP_in (name := nm) (ks := ks) (by rw [← hc20]; exact mem_of_at hx0)
      exact ⟨_, rfl, a, c, by rw [e], by rw [e]; exact ho, fun q h => .inl h, K0⟩
    · try simp only [br] at hc20
      refine Run.skip ?_
      refine Run.seq ?_
      refine Run.seq ?_
      refine Run.region ?_
      refine RL.val (x_moveB rfl) ?_
      refine RL.val (x_not rfl) ?_
      refine RL.val (x_moveB rfl) ?_
      refine RL.gval (wantedT rfl rfl rfl rfl) (fun hg => (x_moveS rfl)) ?_
      refine RL.gval (wantedT rfl rfl rfl rfl) (fun hg => (x_moveSl rfl)) ?_
      refine RL.gval (wantedT rfl rfl rfl rfl) (fun hg => (x_moveI rfl)) ?_
      obtain ⟨b_14, o_15, x_18, hx_19, ha_16, hc_17⟩ := ho.sl.el (i := i) (by first | omega | (simp only [List.length_set]; omega))
      obtain rfl : x = x_18 := Option.some.inj (hx.symm.trans hx_19)
      refine RL.gval (wantedT rfl rfl rfl rfl) (fun hg => (x_idxN Try.underlying106 ty116 (gvr hg) (gvr hg) ha_16 (by first | omega | (simp only [List.length_set]; omega)))) ?_
      refine RL.gval (wantedT rfl rfl rfl rfl) (fun hg => (x_fld (o' := o_15 + i * 4 + 0) Try.underlying116 rfl ty9 rfl (gvr hg) rfl)) ?_
      refine RL.gval (wantedT rfl rfl rfl rfl) (fun hg => (x_ld ty9 (gvr hg) rfl (hc_17.field (i := 0) rfl))) ?_
      refine RL.gval (wantedT rfl rfl rfl rfl) (fun hg => (x_ltS (gvr hg) (gvr hg))) ?_
      refine RL.val (x_and rfl rfl rfl) ?_
      refine RL.nil ?_
      refine Run.cond rfl (fun hc32 => ?_) (fun hc32 => ?_)
      · try simp only [br] at hc32
        refine Run.seq ?_
        refine Run.region ?_
        refine RL.val (x_moveSl rfl) ?_
        refine RL.val (x_moveS rfl) ?_
        refine RL.val (x_build (cells := #[.string (nm), .bool (false), .int .i64 (0), .int .i64 (0)]) (by kernel_rfl)) ?_
        refine RL.st rfl <| St1.buildSlice ([(⟨nm, false, 0, 0⟩ : RKey)] : List RKey) Try.underlying106 ty116 rfl rfl (by first | decide | (simp [Enc.size])) ?_
        intro b_20 w_21 hl_24 ho_23 K_22
        have pr_25 : ∀ q_, own (some ⟨b_20, 0, none⟩) q_ → ¬ own a q_ := apartNew (ge_new hl_24) ho.own_lt
        have pr_26 : ∀ q_, own (some ⟨b_20, 0, none⟩) q_ → ¬ own am q_ := apartNew (ge_new hl_24) ho_3.own_lt
        have pg_27 : ∀ q_, own (some ⟨b_20, 0, none⟩) q_ → w.heap.size ≤ q_ := fun q_ h => Nat.le_trans K0.size ((ge_new hl_24) q_ h)
        clear hl_24
        replace ho := ho.ext K_22
        replace ho_3 := ho_3.ext K_22
        replace K0 := K0.ext K_22
        refine RL.st rfl <| St1.append (xs := (wiI nm ks i).1.map newR) (ys := ([(⟨nm, false, 0, 0⟩ : RKey)] : List RKey)) Try.underlying106 ty116 rfl rfl rfl ho_3 ho_23.sl (by first | omega | (simp only [lr]; omega)) (by decide) ?_
        intro a_28 c_29 w_30 ho_31 K_32 hm_33 hrm_34
        have pr_35 : ∀ q_, own a_28 q_ → ¬ own a q_ := hm_33.apart pr_4 ho.own_lt
        have pr_36 : ∀ q_, own a_28 q_ → ¬ own (some ⟨b_20, 0, none⟩) q_ := hm_33.apart (fun q_ h1 h2 => pr_26 q_ h2 h1) ho_23.own_lt
        have pg_37 : ∀ q_, own a_28 q_ → w.heap.size ≤ q_ := hm_33.ge pr_5 K0.size
        replace ho := ho.keepO K_32 (fun q_ h1 h2 => pr_4 q_ h2 h1)
        replace ho_23 := ho_23.keepO K_32 pr_26
        replace K0 := K0.new K_32 pr_5
        clear hm_33
        clear hrm_34
        refine RL.val (x_assignSl rfl) ?_
        refine RL.nil ?_
        refine Run.region ?_
        refine RL.val (x_assignB rfl) ?_
        refine RL.nil ?_
        refine Run.region ?_
        refine RL.val (x_moveSl rfl) ?_
        refine RL.val (x_moveSl rfl) ?_
        refine RL.val (x_moveI rfl) ?_
        obtain ⟨b_38, o_39, x_42, hx_43, ha_40, hc_41⟩ := ho.sl.el (i := i) (by first | omega | (simp only [List.length_set]; omega))
        obtain rfl : x = x_42 := Option.some.inj (hx.symm.trans hx_43)
        refine RL.val (x_idxN Try.underlying106 ty116 rfl rfl ha_40 (by first | omega | (simp only [List.length_set]; omega))) ?_
        refine RL.val (x_ldV (v := .agg #[.string ((x).name), .bool ((x).sent), .int .i64 ((x).req), .int .i64 ((x).since)]) (y := x) ty116 rfl hc_41 rfl) ?_
        refine RL.st rfl <| St1.buildSlice ([x] : List RKey) Try.underlying106 ty116 rfl rfl (by first | decide | (simp [Enc.size])) ?_
        intro b_44 w_45 hl_48 ho_47 K_46
        have pr_49 : ∀ q_, own (some ⟨b_44, 0, none⟩) q_ → ¬ own a q_ := apartNew (ge_new hl_48) ho.own_lt
        have pr_50 : ∀ q_, own (some ⟨b_44, 0, none⟩) q_ → ¬ own (some ⟨b_20, 0, none⟩) q_ := apartNew (ge_new hl_48) ho_23.own_lt
        have pr_51 : ∀ q_, own (some ⟨b_44, 0, none⟩) q_ → ¬ own a_28 q_ := apartNew (ge_new hl_48) ho_31.own_lt
        have pg_52 : ∀ q_, own (some ⟨b_44, 0, none⟩) q_ → w.heap.size ≤ q_ := fun q_ h => Nat.le_trans K0.size ((ge_new hl_48) q_ h)
        clear hl_48
        replace ho := ho.ext K_46
        replace ho_23 := ho_23.ext K_46
        replace ho_31 := ho_31.ext K_46
        replace hc_41 := hc_41.ext K_46
        replace K0 := K0.ext K_46
        refine RL.st rfl <| St1.append (xs := ((wiI nm ks i).1.map newR) ++ ([(⟨nm, false, 0, 0⟩ : RKey)] : List RKey)) (ys := ([x] : List RKey)) Try.underlying106 ty116 rfl rfl rfl ho_31 ho_47.sl (by first | omega | (simp only [lr]; omega)) (by decide) ?_
        intro a_53 c_54 w_55 ho_56 K_57 hm_58 hrm_59
        have pr_60 : ∀ q_, own a_53 q_ → ¬ own a q_ := hm_58.apart pr_35 ho.own_lt
        have pr_61 : ∀ q_, own a_53 q_ → ¬ own (some ⟨b_20, 0, none⟩) q_ := hm_58.apart pr_36 ho_23.own_lt
        have pr_62 : ∀ q_, own a_53 q_ → ¬ own (some ⟨b_44, 0, none⟩) q_ := hm_58.apart (fun q_ h1 h2 => pr_51 q_ h2 h1) ho_47.own_lt
        have pg_63 : ∀ q_, own a_53 q_ → w.heap.size ≤ q_ := hm_58.ge pg_37 K0.size
        replace ho := ho.keepO K_57 (fun q_ h1 h2 => pr_35 q_ h2 h1)
        replace ho_23 := ho_23.keepO K_57 (fun q_ h1 h2 => pr_36 q_ h2 h1)
        replace hc_41 := hc_41.keep K_57 (fun h => (fun q_ h1 h2 => pr_35 q_ h2 h1) _ ((own_sub _) _ ha_40) h)
        replace ho_47 := ho_47.keepO K_57 pr_51
        replace K0 := K0.new K_57 pg_37
        clear hm_58
        clear hrm_59
        refine RL.val (x_assignSl rfl) ?_
        refine RL.nil ?_
        refine Run.inBlock ?_
        refine Run.region ?_
        refine RL.val (x_moveI rfl) ?_
        refine RL.val (litI (c := ((i + 1 : Nat) : Int)) (x_add rfl rfl (by omega) (by omega)) rfl) ?_
        refine RL.val (x_assignI rfl) ?_
        refine RL.nil ?_
        have e := wi_in (name := nm) hx0 (by simpa using hc32.1) hc32.2
        have e1 : (wiI nm ks (i + 1)).1.map newR = (wiI nm ks i).1.map newR ++ [newR nm] ++ [newR x.name] := by rw [e]; simp
        have e2 : (wiI nm ks (i + 1)).2 = true := by rw [e]
        rw [← hxe] at e1
        refine ih1 (i + 1) _ _ ?_ (by omega)
        rw [e1, e2]
        refine ⟨_, _, ⟨rfl, rfl, rfl, rfl, rfl, trivial⟩, K0, ho, ho_56, pr_60, pg_63, ?_, ?_⟩
        · omega
        · exact fun j x_ h1 h2 => nb_ne hno hx0 hc20 h1 h2
      · try simp only [br] at hc32
        refine Run.skip ?_
        refine Run.region ?_
        refine RL.val (x_moveSl rfl) ?_
        refine RL.val (x_moveSl rfl) ?_
        refine RL.val (x_moveI rfl) ?_
        obtain ⟨b_64, o_65, x_68, hx_69, ha_66, hc_67⟩ := ho.sl.el (i := i) (by first | omega | (simp only [List.length_set]; omega))
        obtain rfl : x = x_68 := Option.some.inj (hx.symm.trans hx_69)
        refine RL.val (x_idxN Try.underlying106 ty116 rfl rfl ha_66 (by first | omega | (simp only [List.length_set]; omega))) ?_
        refine RL.val (x_ldV (v := .agg #[.string ((x).name), .bool ((x).sent), .int .i64 ((x).req), .int .i64 ((x).since)]) (y := x) ty116 rfl hc_67 rfl) ?_
        refine RL.st rfl <| St1.buildSlice ([x] : List RKey) Try.underlying106 ty116 rfl rfl (by first | decide | (simp [Enc.size])) ?_
        intro b_70 w_71 hl_74 ho_73 K_72
        have pr_75 : ∀ q_, own (some ⟨b_70, 0, none⟩) q_ → ¬ own a q_ := apartNew (ge_new hl_74) ho.own_lt
        have pr_76 : ∀ q_, own (some ⟨b_70, 0, none⟩) q_ → ¬ own am q_ := apartNew (ge_new hl_74) ho_3.own_lt
        have pg_77 : ∀ q_, own (some ⟨b_70, 0, none⟩) q_ → w.heap.size ≤ q_ := fun q_ h => Nat.le_trans K0.size ((ge_new hl_74) q_ h)
        clear hl_74
        replace ho := ho.ext K_72
        replace ho_3 := ho_3.ext K_72
        replace hc_67 := hc_67.ext K_72
        replace K0 := K0.ext K_72
        refine RL.st rfl <| St1.append (xs := (wiI nm ks i).1.map newR) (ys := ([x] : List RKey)) Try.underlying106 ty116 rfl rfl rfl ho_3 ho_73.sl (by first | omega | (simp only [lr]; omega)) (by decide) ?_
        intro a_78 c_79 w_80 ho_81 K_82 hm_83 hrm_84
        have pr_85 : ∀ q_, own a_78 q_ → ¬ own a q_ := hm_83.apart pr_4 ho.own_lt
        have pr_86 : ∀ q_, own a_78 q_ → ¬ own (some ⟨b_70, 0, none⟩) q_ := hm_83.apart (fun q_ h1 h2 => pr_76 q_ h2 h1) ho_73.own_lt
        have pg_87 : ∀ q_, own a_78 q_ → w.heap.size ≤ q_ := hm_83.ge pr_5 K0.size
        replace ho := ho.keepO K_82 (fun q_ h1 h2 => pr_4 q_ h2 h1)
        replace hc_67 := hc_67.keep K_82 (fun h => (fun q_ h1 h2 => pr_4 q_ h2 h1) _ ((own_sub _) _ ha_66) h)
        replace ho_73 := ho_73.keepO K_82 pr_76
        replace K0 := K0.new K_82 pr_5
        clear hm_83
        clear hrm_84
        refine RL.val (x_assignSl rfl) ?_
        refine RL.nil ?_
        refine Run.inBlock ?_
        refine Run.region ?_
        refine RL.val (x_moveI rfl) ?_
        refine RL.val (litI (c := ((i + 1 : Nat) : Int)) (x_add rfl rfl (by omega) (by omega)) rfl) ?_
        refine RL.val (x_assignI rfl) ?_
        refine RL.nil ?_
        have e := wi_out (name := nm) hx0 (wi_not hc32)
        have e1 : (wiI nm ks (i + 1)).1.map newR = (wiI nm ks i).1.map newR ++ [newR x.name] := by rw [e]; simp
        have e2 : (wiI nm ks (i + 1)).2 = (wiI nm ks i).2 := by rw [e]
        rw [← hxe] at e1
        refine ih1 (i + 1) _ _ ?_ (by omega)
        rw [e1, e2]
        refine ⟨_, _, ⟨rfl, rfl, rfl, rfl, rfl, trivial⟩, K0, ho, ho_81, pr_85, pg_87, ?_, ?_⟩
        · omega
        · exact fun j x_ h1 h2 => nb_ne hno hx0 hc20 h1 h2
  · try simp only [br] at hc11
    refine Run.exit rfl ?_
    refine Run.seq ?_
    refine Run.seq ?_
    have hwm : ((wiI nm ks i).1.map newR).length ≤ i + 1 := by rw [List.length_map]; exact (wi_len i (by omega)).1
    refine Run.region ?_
    refine RL.val (x_moveB rfl) ?_
    refine RL.val (x_not rfl) ?_
    refine RL.nil ?_
    refine Run.cond rfl (fun hc46 => ?_) (fun hc46 => ?_)
    · try simp only [br] at hc46
      refine Run.region ?_
      refine RL.val (x_moveSl rfl) ?_
      refine RL.val (x_moveS rfl) ?_
      refine RL.val (x_build (cells := #[.string (nm), .bool (false), .int .i64 (0), .int .i64 (0)]) (by kernel_rfl)) ?_
      refine RL.st rfl <| St1.buildSlice ([(⟨nm, false, 0, 0⟩ : RKey)] : List RKey) Try.underlying106 ty116 rfl rfl (by first | decide | (simp [Enc.size])) ?_
      intro b_88 w_89 hl_92 ho_91 K_90
      have pr_93 : ∀ q_, own (some ⟨b_88, 0, none⟩) q_ → ¬ own a q_ := apartNew (ge_new hl_92) ho.own_lt
      have pr_94 : ∀ q_, own (some ⟨b_88, 0, none⟩) q_ → ¬ own am q_ := apartNew (ge_new hl_92) ho_3.own_lt
      have pg_95 : ∀ q_, own (some ⟨b_88, 0, none⟩) q_ → w.heap.size ≤ q_ := fun q_ h => Nat.le_trans K0.size ((ge_new hl_92) q_ h)
      clear hl_92
      replace ho := ho.ext K_90
      replace ho_3 := ho_3.ext K_90
      replace K0 := K0.ext K_90
      refine RL.st rfl <| St1.append (xs := (wiI nm ks i).1.map newR) (ys := ([(⟨nm, false, 0, 0⟩ : RKey)] : List RKey)) Try.underlying106 ty116 rfl rfl rfl ho_3 ho_91.sl (by first | omega | (simp only [lr]; omega)) (by decide) ?_
      intro a_96 c_97 w_98 ho_99 K_100 hm_101 hrm_102
      have pr_103 : ∀ q_, own a_96 q_ → ¬ own a q_ := hm_101.apart pr_4 ho.own_lt
      have pr_104 : ∀ q_, own a_96 q_ → ¬ own (some ⟨b_88, 0, none⟩) q_ := hm_101.apart (fun q_ h1 h2 => pr_94 q_ h2 h1) ho_91.own_lt
      have pg_105 : ∀ q_, own a_96 q_ → w.heap.size ≤ q_ := hm_101.ge pr_5 K0.size
      replace ho := ho.keepO K_100 (fun q_ h1 h2 => pr_4 q_ h2 h1)
      replace ho_91 := ho_91.keepO K_100 pr_94
      replace K0 := K0.new K_100 pr_5
      clear hm_101
      clear hrm_102
      refine RL.val (x_assignSl rfl) ?_
      refine RL.nil ?_
      refine Run.seq ?_
      refine Run.region ?_
      refine RL.val (x_moveSl rfl) ?_
      refine RL.val (x_assignSl rfl) ?_
      refine RL.nil ?_
      refine Run.ret1 (v := .slice (a_96) ((((wiI nm ks i).1.map newR) ++ ([(⟨nm, false, 0, 0⟩ : RKey)] : List RKey)).length) (c_97)) Try.func56 rfl rfl ?_
      have hil : i = ks.length := by omega
      have hnm : nm ∉ ks := fun h => by
        obtain ⟨j, hj, e⟩ := List.getElem_of_mem h
        exact hno j nm (by omega) (by rw [← e]; exact List.getElem?_eq_getElem hj) rfl
      have e : ((wiI nm ks i).1.map newR) ++ ([(⟨nm, false, 0, 0⟩ : RKey)] : List RKey) = (withP nm ks).map newR := by rw [withP_out hnm, ← (wi_end hil).1 (by simpa using hc46), List.map_append]; rfl
      rw [e] at ho_99 ⊢
      exact ⟨_, rfl, a_96, c_97, rfl, ho_99, fun q h => .inr (pg_105 q h), K0⟩
    · try simp only [br] at hc46
      refine Run.skip ?_
      refine Run.seq ?_
      refine Run.region ?_
      refine RL.val (x_moveSl rfl) ?_
      refine RL.val (x_assignSl rfl) ?_
      refine RL.nil ?_
      refine Run.ret1 (v := .slice (am) (((wiI nm ks i).1.map newR).length) (cm)) Try.func56 rfl rfl ?_
      have hil : i = ks.length := by omega
      have hnm : nm ∉ ks := fun h => by
        obtain ⟨j, hj, e⟩ := List.getElem_of_mem h
        exact hno j nm (by omega) (by rw [← e]; exact List.getElem?_eq_getElem hj) rfl
      have e : (wiI nm ks i).1.map newR = (withP nm ks).map newR := by rw [withP_out hnm, ← (wi_end hil).2 (by simpa using hc46)]
      rw [e] at ho_3 ⊢
      exact ⟨_, rfl, am, cm, rfl, ho_3, fun q h => .inr (pr_5 q h), K0⟩

set_option maxRecDepth 100000 in
set_option maxHeartbeats 4000000 in
theorem without_ (s : Nat) (self now req : Int) (al : Option Addr) (cl : Nat) (ps : List (Option Addr)) (k : Nat) (w : World) (hB : Blk w s [.int .i64 self, .int .i64 now, .int .i64 req, .slice al ps.length cl] 105) (ho : OwnSl w 110 al cl ps) (hos : ¬ own al s) (hk : k < ps.length) (hl : ps.length ≤ 1000) :
    Calls Try.prog 58 #[.pointer (some ⟨s, 0, none⟩), .int .i64 (((k : Nat) : Int))] w (Ret (fun v w' => ∃ a' c', v = .tuple #[] ∧ Blk w' s [.int .i64 self, .int .i64 now, .int .i64 req, .slice a' (delI ps k).length c'] 105 ∧ OwnSl w' 110 a' c' (delI ps k) ∧ (∀ q, own a' q → w.heap.size ≤ q) ∧ Keeps (one s) w w')) := by
  have hcap := ho.le_cap
  have htl : (ps.take k).length ≤ 1000 := by rw [List.length_take]; omega
  have hdl : (ps.drop (k + 1)).length ≤ 1000 := by rw [List.length_drop]; omega
  refine calls_run (n := 24) Try.func58 rfl rfl rfl ?_
  refine Run.seq ?_
  refine Run.region ?_
  refine RL.val (x_moveP rfl) ?_
  refine RL.val (x_nilCheck rfl) ?_
  refine RL.val (x_fld (o' := 3) Try.underlying105 rfl ty103 rfl rfl rfl) ?_
  refine RL.val (x_ld (v := .slice (al) (ps.length) (cl)) ty103 rfl rfl (hB.cl.field (i := 3) rfl)) ?_
  refine RL.val (x_moveI rfl) ?_
  refine RL.val (litSl (m' := (ps.take k).length) (x_sliceTo Try.underlying103 ty110 rfl rfl (by omega)) (by rw [List.length_take]; omega)) ?_
  have ho_1 := OwnSl.nil (α := (Option Addr)) w 110
  refine RL.st rfl <| St1.append (xs := ([] : List (Option Addr))) (ys := ps.take k) Try.underlying103 ty110 rfl rfl rfl ho_1 (ho.sl.take k) (by first | omega | (simp only [lr]; omega)) (by decide) ?_
  intro a_2 c_3 w_4 ho_5 K_6 hm_7 hrm_8
  have pr_9 : ¬ own a_2 s := hm_7.not (own_none s) hB.lt
  have pr_10 : ∀ q_, own a_2 q_ → ¬ own al q_ := hm_7.apart (fun q_ h1 _ => own_none q_ h1) ho.own_lt
  have pg_11 : ∀ q_, own a_2 q_ → q_ < w.heap.size → (one s) q_ := hm_7.inS (fun q_ h1 _ => absurd h1 (own_none q_)) (Nat.le_refl _)
  have pw_12 : ∀ q_, own a_2 q_ → w.heap.size ≤ q_ := hm_7.ge (fun q_ h1 => absurd h1 (own_none q_)) (Nat.le_refl _)
  replace hB := hB.keep K_6 (own_none s)
  replace ho := ho.keepO K_6 (fun q_ h1 h2 => (fun q_ h1 _ => own_none q_ h1) q_ h2 h1)
  have K0 := (Keeps.refl (one s) w).trans K_6 (fun x hlt hx => (fun q_ h1 _ => absurd h1 (own_none q_)) x hx hlt)
  clear hm_7
  clear hrm_8
  refine RL.val (x_assignSl rfl) ?_
  refine RL.nil ?_
  refine Run.region ?_
  refine RL.val (x_moveP rfl) ?_
  refine RL.val (x_moveSl rfl) ?_
  refine RL.val (x_moveP rfl) ?_
  refine RL.val (x_nilCheck rfl) ?_
  refine RL.val (x_fld (o' := 3) Try.underlying105 rfl ty103 rfl rfl rfl) ?_
  refine RL.val (x_ld (v := .slice (al) (ps.length) (cl)) ty103 rfl rfl (hB.cl.field (i := 3) rfl)) ?_
  refine RL.val (x_moveI rfl) ?_
  refine RL.val (litI (c := ((k + 1 : Nat) : Int)) (x_add rfl rfl (by omega) (by omega)) rfl) ?_
  refine RL.val (x_sliceFrom (xs := ps) Try.underlying103 ty110 rfl rfl (by omega)) ?_
  refine RL.st rfl <| St1.append (xs := ([] : List (Option Addr)) ++ ps.take k) (ys := ps.drop (k + 1)) Try.underlying103 ty110 rfl rfl rfl ho_5 (ho.sl.from (k + 1) cl (ho.le_cap)) (by first | omega | (simp only [lr]; omega)) (by decide) ?_
  intro a_13 c_14 w_15 ho_16 K_17 hm_18 hrm_19
  have pr_20 : ¬ own a_13 s := hm_18.not pr_9 hB.lt
  have pr_21 : ∀ q_, own a_13 q_ → ¬ own al q_ := hm_18.apart pr_10 ho.own_lt
  have pg_22 : ∀ q_, own a_13 q_ → q_ < w.heap.size → (one s) q_ := hm_18.inS pg_11 K0.size
  have pw_23 : ∀ q_, own a_13 q_ → w.heap.size ≤ q_ := hm_18.ge pw_12 K0.size
  replace hB := hB.keep K_17 pr_9
  replace ho := ho.keepO K_17 (fun q_ h1 h2 => pr_10 q_ h2 h1)
  replace K0 := K0.trans K_17 (fun x hlt hx => pg_11 x hx hlt)
  clear hm_18
  clear hrm_19
  refine RL.val (x_nilCheck rfl) ?_
  refine RL.val (x_fld (o' := 3) Try.underlying105 rfl ty103 rfl rfl rfl) ?_
  refine RL.st rfl <| St1.store (v := .slice (a_13) (((([] : List (Option Addr)) ++ ps.take k) ++ ps.drop (k + 1)).length) (c_14)) ty103 rfl rfl rfl (by simp [Value.cells, Value.oneCell']) hB (by simp) ?_
  intro w_24 hB_ K_25
  have hB' : Blk w_24 s [.int .i64 (self), .int .i64 (now), .int .i64 (req), .slice (a_13) (((([] : List (Option Addr)) ++ ps.take k) ++ ps.drop (k + 1)).length) (c_14)] 105 := hB_
  clear hB_
  replace ho := ho.keepO K_25 (fun q_ hq_ eq_ => hos (by simp only [one] at eq_; rw [← eq_]; exact hq_))
  replace ho_16 := ho_16.keepO K_25 (fun q_ hq_ eq_ => pr_20 (by simp only [one] at eq_; rw [← eq_]; exact hq_))
  replace K0 := K0.trans K_25 (fun x _ hx => by simp only [one] at hx; subst hx; exact rfl)
  replace hB := hB'
  clear hB'
  refine RL.nil ?_
  refine Run.fin0 Try.func58 rfl ?_
  exact ⟨_, rfl, a_13, c_14, rfl, hB, ho_16, pw_23, K0⟩

end Go.Proofs.Ythhhkjmlnjbnjaa
