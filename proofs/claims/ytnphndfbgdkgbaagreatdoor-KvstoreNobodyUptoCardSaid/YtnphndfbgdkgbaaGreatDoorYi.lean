/-
  Layer 7: plain facts of a log's states.
-/
import Derived.Test.YtnphndfbgdkgbaaGreatDoorRows
import Derived.Test.YtnphndfbgdkgbaaGreatDoorYh
namespace Go.Proofs.YtnphndfbgdkgbaaGreatDoor
attribute [local irreducible] St1 RL RA RT RT1 Run
attribute [local irreducible] crcN crcL crcS crcB numL leL unfR nameS segsL sortZ segI segO hasP restP
attribute [local irreducible] readAll mayP frameB
/-! ### the states of a log -/
def segF (i : Nat) (rs : List (List UInt8)) (s : Nat) : PF := ⟨nameS (i : Int), rs.flatMap frameB, s⟩
def lenF (rs : List (List UInt8)) : Nat := (rs.flatMap frameB).length
def doneL : Nat → List (List (List UInt8)) → List PF
  | _, [] => []
  | i, rs :: t => segF i rs (lenF rs) :: doneL (i + 1) t
def curL (i : Nat) (c : List (List UInt8)) (s : Nat) : List PF := if c = [] then [] else [segF i c s]
def logL (D : List (List (List UInt8))) (c : List (List UInt8)) (s : Nat) : List PF := doneL 1 D ++ curL (D.length + 1) c s
def cntL (D : List (List (List UInt8))) (c : List (List UInt8)) : Nat := D.length + if c = [] then 0 else 1
theorem doneL_app : ∀ (D : List (List (List UInt8))) (i : Nat) (rs : List (List UInt8)), doneL i (D ++ [rs]) = doneL i D ++ [segF (i + D.length) rs (lenF rs)]
  | [], i, rs => by simp [doneL]
  | x :: D, i, rs => by
    rw [List.cons_append, doneL, doneL, doneL_app D (i + 1) rs, List.cons_append, List.length_cons, show i + 1 + D.length = i + (D.length + 1) by omega]
theorem doneL_len : ∀ (D : List (List (List UInt8))) (i : Nat), (doneL i D).length = D.length
  | [], _ => rfl
  | x :: D, i => by rw [doneL, List.length_cons, doneL_len D, List.length_cons]
theorem doneL_mem : ∀ {D : List (List (List UInt8))} {i : Nat} {f : PF}, f ∈ doneL i D → ∃ k rs, k < D.length ∧ D[k]? = some rs ∧ f = segF (i + k) rs (lenF rs)
  | [], _, _, h => by cases h
  | x :: D, i, f, h => by
    rw [doneL] at h
    rcases List.mem_cons.1 h with rfl | h
    · exact ⟨0, x, by simp, rfl, rfl⟩
    · obtain ⟨k, rs, h1, h2, h3⟩ := doneL_mem h
      exact ⟨k + 1, rs, by simp; omega, by simpa using h2, by rw [h3, show i + 1 + k = i + (k + 1) by omega]⟩
theorem doneL_get : ∀ {D : List (List (List UInt8))} {i k : Nat} {rs : List (List UInt8)}, D[k]? = some rs → segF (i + k) rs (lenF rs) ∈ doneL i D
  | [], _, _, _, h => by simp at h
  | x :: D, i, 0, rs, h => by
    simp at h; subst h
    rw [doneL]; simp
  | x :: D, i, k + 1, rs, h => by
    rw [doneL]
    have := doneL_get (i := i + 1) (k := k) (by simpa using h)
    rw [show i + 1 + k = i + (k + 1) by omega] at this
    exact List.mem_cons_of_mem _ this
theorem segF_name (i : Nat) (rs : List (List UInt8)) (s : Nat) : (segF i rs s).name = nameS (i : Int) := rfl
section
variable {D : List (List (List UInt8))} {c : List (List UInt8)} {s : Nat}
theorem logL_mem {f : PF} (h : f ∈ logL D c s) : ∃ k : Nat, 1 ≤ k ∧ k ≤ cntL D c ∧ f.name = nameS (k : Int) := by
  rw [logL] at h
  rcases List.mem_append.1 h with h | h
  · obtain ⟨k, rs, h1, h2, rfl⟩ := doneL_mem h
    exact ⟨1 + k, by omega, by rw [cntL]; omega, rfl⟩
  · rw [curL] at h
    split at h
    · cases h
    · rename_i hc
      simp only [List.mem_singleton] at h
      subst h
      exact ⟨D.length + 1, by omega, by rw [cntL, if_neg hc]; omega, rfl⟩
theorem logL_has {k : Nat} (h1 : 1 ≤ k) (h2 : k ≤ cntL D c) : hasL (logL D c s) (nameS (k : Int)) = true := by
  by_cases hk : k ≤ D.length
  · obtain ⟨rs, hr⟩ : ∃ rs, D[k - 1]? = some rs := ⟨_, List.getElem?_eq_getElem (by omega)⟩
    have := doneL_get (i := 1) hr
    rw [show 1 + (k - 1) = k by omega] at this
    exact hasL_iff.2 ⟨_, List.mem_append_left _ this, rfl⟩
  · have hc : c ≠ [] := fun e => by rw [cntL, if_pos e] at h2; omega
    rw [cntL, if_neg hc] at h2
    have : k = D.length + 1 := by omega
    subst this
    exact hasL_iff.2 ⟨segF (D.length + 1) c s, List.mem_append_right _ (by rw [curL, if_neg hc]; simp), rfl⟩
theorem name_nat {i j : Nat} (h1 : 1 ≤ i) (h2 : i ≤ 999999999) (h3 : 1 ≤ j) (h4 : j ≤ 999999999) (e : nameS (i : Int) = nameS (j : Int)) : i = j := by
  have := name_inj (n := (i : Int)) (m := (j : Int)) (by omega) (by omega) (by omega) (by omega) e
  omega
theorem done_nodup : ∀ (D : List (List (List UInt8))) (i : Nat), 1 ≤ i → i + D.length ≤ 999999999 → ((doneL i D).map (·.name)).Nodup
  | [], _, _, _ => by simp [doneL]
  | x :: D, i, h1, h2 => by
    rw [doneL, List.map_cons, List.nodup_cons]
    simp only [List.length_cons] at h2
    refine ⟨fun h => ?_, done_nodup D (i + 1) (by omega) (by omega)⟩
    obtain ⟨f, hf, e⟩ := List.mem_map.1 h
    obtain ⟨k, rs, hk, _, rfl⟩ := doneL_mem hf
    have := name_nat (by omega) (by omega) h1 (by omega) (show nameS ((i + 1 + k : Nat) : Int) = nameS (i : Int) from e)
    omega
theorem logL_nodup (h : cntL D c ≤ 999999998) : ((logL D c s).map (·.name)).Nodup := by
  have hD : D.length ≤ cntL D c := by rw [cntL]; omega
  rw [logL, List.map_append, List.nodup_append]
  refine ⟨done_nodup D 1 (by decide) (by omega), ?_, ?_⟩
  · rw [curL]; split <;> simp
  · intro a ha b hb e
    subst e
    rw [curL] at hb
    split at hb
    · simp at hb
    · rename_i hc
      rw [cntL, if_neg hc] at h
      obtain ⟨f, hf, rfl⟩ := List.mem_map.1 ha
      obtain ⟨k, rs, hk, _, rfl⟩ := doneL_mem hf
      simp only [List.map_cons, List.map_nil, List.mem_singleton] at hb
      have := name_nat (by omega) (by omega) (by omega) (by omega) (show nameS ((1 + k : Nat) : Int) = nameS ((D.length + 1 : Nat) : Int) from hb)
      omega
theorem rising_eq {l m : List Int} (h1 : l.Pairwise (· < ·)) (h2 : m.Pairwise (· < ·)) (h : ∀ x, x ∈ l ↔ x ∈ m) : l = m :=
  sorted_unique ((List.perm_ext_iff_of_nodup (h1.imp fun {a b} h e => by omega) (h2.imp fun {a b} h e => by omega)).2 h) (h1.imp fun h => by omega) (h2.imp fun h => by omega)
def upL (n : Nat) : List Int := (List.range n).map fun k => ((k + 1 : Nat) : Int)
theorem upL_rise (n : Nat) : (upL n).Pairwise (· < ·) := by
  rw [upL, List.pairwise_map]
  exact List.pairwise_lt_range.imp fun h => by omega
theorem upL_mem {n : Nat} {x : Int} : x ∈ upL n ↔ 1 ≤ x ∧ x ≤ n := by
  rw [upL, List.mem_map]
  constructor
  · rintro ⟨k, hk, rfl⟩
    have := List.mem_range.1 hk
    omega
  · rintro ⟨h1, h2⟩
    exact ⟨x.toNat - 1, List.mem_range.2 (by omega), by omega⟩
theorem segs_log (h : cntL D c ≤ 999999998) : segsL (logL D c s) = upL (cntL D c) := by
  refine rising_eq (segsL_rise (logL_nodup h)) (upL_rise _) fun x => ?_
  rw [segsL_mem, upL_mem]
  constructor
  · rintro ⟨h1, h2, h3⟩
    obtain ⟨f, hf, e⟩ := hasL_iff.1 h3
    obtain ⟨k, k1, k2, e2⟩ := logL_mem hf
    have := name_inj (n := (k : Int)) (m := x) (by omega) (by omega) h1 h2 (e2.symm.trans e)
    omega
  · rintro ⟨h1, h2⟩
    refine ⟨h1, by omega, ?_⟩
    have := logL_has (D := D) (c := c) (s := s) (k := x.toNat) (by omega) (by omega)
    rwa [show ((x.toNat : Nat) : Int) = x by omega] at this
theorem last_log (h : cntL D c ≤ 999999998) : lastP (logL D c s) = ((cntL D c : Nat) : Int) := by
  rw [lastP, segs_log h, upL]
  rcases Nat.eq_zero_or_pos (cntL D c) with h0 | h0
  · rw [h0]; rfl
  · obtain ⟨n, hn⟩ : ∃ n, cntL D c = n + 1 := ⟨cntL D c - 1, by omega⟩
    rw [hn, List.range_succ, List.map_append]; simp
theorem look_cur (h : cntL D c ≤ 999999998) (hc : c ≠ []) : lookL (logL D c s) (nameS ((D.length + 1 : Nat) : Int)) = some (segF (D.length + 1) c s) :=
  lookL_mem (logL_nodup h) (f := segF (D.length + 1) c s) (List.mem_append_right _ (by rw [curL, if_neg hc]; simp))
theorem look_done (h : cntL D c ≤ 999999998) {k : Nat} {rs : List (List UInt8)} (hk : D[k]? = some rs) : lookL (logL D c s) (nameS ((k + 1 : Nat) : Int)) = some (segF (k + 1) rs (lenF rs)) := by
  have := doneL_get (i := 1) hk
  rw [show 1 + k = k + 1 by omega] at this
  exact lookL_mem (logL_nodup h) (f := segF (k + 1) rs (lenF rs)) (List.mem_append_left _ this)
theorem updL_app (a b : List PF) (n : ByteArray) (u : PF → PF) : updL (a ++ b) n u = updL a n u ++ updL b n u := by rw [updL, List.map_append]; rfl
theorem upd_none {pl : List PF} {n : ByteArray} {u : PF → PF} (h : ∀ f ∈ pl, f.name ≠ n) : updL pl n u = pl := by
  rw [updL]
  refine (List.map_congr_left fun f hf => if_neg (h f hf)).trans (List.map_id _)
theorem done_ne (h : cntL D c ≤ 999999998) (hc : c ≠ []) : ∀ f ∈ doneL 1 D, f.name ≠ nameS ((D.length + 1 : Nat) : Int) := by
  intro f hf e
  rw [cntL, if_neg hc] at h
  obtain ⟨k, rs, hk, _, rfl⟩ := doneL_mem hf
  have := name_nat (by omega) (by omega) (by omega) (by omega) (show nameS ((1 + k : Nat) : Int) = nameS ((D.length + 1 : Nat) : Int) from e)
  omega
theorem upd_cur (h : cntL D c ≤ 999999998) (hc : c ≠ []) (u : PF → PF) : updL (logL D c s) (nameS ((D.length + 1 : Nat) : Int)) u = doneL 1 D ++ [u (segF (D.length + 1) c s)] := by
  rw [logL, updL_app, upd_none (done_ne h hc), curL, if_neg hc]
  simp [updL, segF]
theorem sync_cur (h : cntL D c ≤ 999999998) (hc : c ≠ []) : syncL (logL D c s) (nameS ((D.length + 1 : Nat) : Int)) = logL D c (lenF c) := by
  rw [syncL, upd_cur h hc, logL, curL, if_neg hc]; rfl
def usedF (D : List (List (List UInt8))) (c : List (List UInt8)) : Nat := lenF (D.flatten ++ c)
theorem lenF_app (a b : List (List UInt8)) : lenF (a ++ b) = lenF a + lenF b := by rw [lenF, lenF, lenF, List.flatMap_append, List.length_append]
theorem used_done : ∀ (D : List (List (List UInt8))) (i : Nat), usedL (doneL i D) = lenF D.flatten
  | [], _ => rfl
  | x :: D, i => by
    have := used_done D (i + 1)
    rw [usedL] at this
    rw [doneL, usedL, List.map_cons, List.sum_cons, this, List.flatten_cons, lenF_app]; rfl
theorem used_log : usedL (logL D c s) = usedF D c := by
  have h1 := used_done D 1
  rw [usedL] at h1
  rw [logL, usedL, List.map_append, List.sum_append_nat, h1, usedF, lenF_app, curL]
  split
  · rename_i hc; subst hc; rfl
  · simp [segF, lenF]
theorem logL_len : (logL D c s).length = cntL D c := by
  rw [logL, List.length_append, doneL_len, cntL, curL]
  split <;> rfl
theorem no_new (h : cntL D c ≤ 999999998) {k : Nat} (hk : cntL D c < k) (hk2 : k ≤ 999999999) : hasL (logL D c s) (nameS (k : Int)) = false := by
  rw [Bool.eq_false_iff]; intro hh
  obtain ⟨f, hf, e⟩ := hasL_iff.1 hh
  obtain ⟨j, j1, j2, e2⟩ := logL_mem hf
  have := name_nat (by omega) (by omega) (by omega) (by omega) (e2.symm.trans e)
  omega
theorem no_fresh : hasL (logL D c s) freshN = false := by
  rw [Bool.eq_false_iff]; intro hh
  obtain ⟨f, hf, e⟩ := hasL_iff.1 hh
  obtain ⟨j, j1, j2, e2⟩ := logL_mem hf
  exact fresh_not _ (e2.symm.trans e)
theorem appE_zero {room : Int} {pl : List PF} {n : ByteArray} {b : List UInt8} (hm : mayN n = true) (hl : hasL pl n = true ∨ pl.length < 64) (hr : (b.length : Int) ≤ room - (usedL pl : Int)) : appE room pl n b = 0 := by
  rw [appE, if_pos hm, if_neg]
  rintro (⟨h1, h2⟩ | h)
  · rcases hl with h3 | h3
    · rw [h3] at h1; cases h1
    · omega
  · omega
/-- what a record makes of a state -/
def stepA (D : List (List (List UInt8))) (c : List (List UInt8)) (s : Nat) (b : List UInt8) : List (List (List UInt8)) × List (List UInt8) × Nat :=
  if c = [] then (D, [b], 0) else if 4096 ≤ lenF c then (D ++ [c], [b], 0) else (D, c ++ [b], s)
theorem append_log {room : Int} {b : List UInt8} (h0 : 0 < b.length) (h1 : b.length ≤ 65536) (hcnt : cntL D c ≤ 60) (hD : c = [] → D = []) (hr : ((frameB b).length : Int) ≤ room - (usedF D c : Int)) :
    appendP room (logL D c s) b = (0, logL (stepA D c s b).1 (stepA D c s b).2.1 (stepA D c s b).2.2) := by
  have hm := mayP_zero h0 h1
  have hlast := last_log (s := s) (D := D) (c := c) (by omega)
  rw [appendP, if_neg (by rw [hm]; decide), hlast, stepA]
  by_cases hc : c = []
  · have hD0 := hD hc
    subst hc; subst hD0
    have e0 : logL [] [] s = [] := rfl
    have en : nameS (max (((0 : Nat) : Int)) 1) = nameS 1 := rfl
    have hE : appE room [] (nameS 1) (frameB b) = 0 := appE_zero name1_may (.inr (by decide)) (by rw [show usedF [] [] = 0 from rfl] at hr; simpa [usedL] using hr)
    rw [e0]
    have e1 : cntL [] [] = 0 := rfl
    rw [if_neg (by rw [e1]; omega), if_pos rfl, e1, if_neg (by decide), en, hE, appL, hE, if_pos rfl]
    simp [hasL, logL, doneL, curL, segF]
  · have hcn : cntL D c = D.length + 1 := by rw [cntL, if_neg hc]
    have hsz : sizeB (logL D c s) (nameS ((cntL D c : Nat) : Int)) = lenF c := by rw [hcn, sizeB, look_cur (by omega) hc]; rfl
    rw [if_neg hc, hsz]
    by_cases hb : 4096 ≤ lenF c
    · rw [if_pos ⟨by omega, hb⟩, if_pos hb, if_neg (by omega), show max (((cntL D c : Nat) : Int) + 1) 1 = ((cntL D c + 1 : Nat) : Int) by omega, hcn, sync_cur (by omega) hc]
      have hno : hasL (logL D c (lenF c)) (nameS ((D.length + 1 + 1 : Nat) : Int)) = false := no_new (by omega) (by omega) (by omega)
      have hE : appE room (logL D c (lenF c)) (nameS ((D.length + 1 + 1 : Nat) : Int)) (frameB b) = 0 := appE_zero (name_may (by omega) (by omega)) (.inr (by rw [logL_len]; omega)) (by rw [used_log]; exact hr)
      rw [hE, appL, hE, if_pos rfl, hno, if_neg (by decide)]
      congr 1
      rw [logL, logL, curL, if_neg hc, doneL_app, curL, if_neg (by simp), Nat.add_comm 1 D.length]
      simp [segF, lenF]
    · rw [if_neg (by omega), if_neg hb, if_neg (by omega), show max ((cntL D c : Nat) : Int) 1 = ((cntL D c : Nat) : Int) by omega, hcn]
      have hhas : hasL (logL D c s) (nameS ((D.length + 1 : Nat) : Int)) = true := logL_has (by omega) (by omega)
      have hE : appE room (logL D c s) (nameS ((D.length + 1 : Nat) : Int)) (frameB b) = 0 := appE_zero (name_may (by omega) (by omega)) (.inl hhas) (by rw [used_log]; exact hr)
      rw [hE, appL, hE, if_pos rfl, hhas, if_pos rfl, upd_cur (by omega) hc, logL, curL, if_neg (by simp)]
      simp [segF, List.flatMap_append]
theorem swap_new {room : Int} {pl : List PF} {b : List UInt8} {n : Int} (h1 : 1 ≤ n) (h2 : n ≤ 999999999) (hf : hasL pl freshN = false) (hl : pl.length < 64) (hr : (b.length : Int) ≤ room - (usedL pl : Int)) :
    swapP room pl b n = (0, remL pl (nameS n) ++ [⟨nameS n, b, b.length⟩]) := by
  have hE : appE room pl freshN b = 0 := appE_zero fresh_may (.inr hl) hr
  have hA : appL room pl freshN b = pl ++ [⟨freshN, b, 0⟩] := by rw [appL, hE, if_pos rfl, hf, if_neg (by decide)]
  have hno : ∀ f ∈ pl, f.name ≠ freshN := fun f hf2 e => by rw [hasL_iff.2 ⟨f, hf2, e⟩] at hf; cases hf
  have hS : syncL (pl ++ [⟨freshN, b, 0⟩]) freshN = pl ++ [⟨freshN, b, b.length⟩] := by rw [syncL, updL_app, upd_none hno]; simp [updL]
  have hh : ∀ s, hasL (pl ++ [⟨freshN, b, s⟩]) freshN = true := fun s => hasL_iff.2 ⟨_, List.mem_append_right _ (List.mem_singleton.2 rfl), rfl⟩
  have hlk : lookL (pl ++ [⟨freshN, b, b.length⟩]) freshN = some ⟨freshN, b, b.length⟩ := by
    rw [lookL, List.find?_append]
    have : pl.find? (fun f => decide (f.name = freshN)) = none := List.find?_eq_none.2 fun f hf2 => by simpa using hno f hf2
    rw [this]; simp
  have hR : renE (pl ++ [⟨freshN, b, b.length⟩]) freshN (nameS n) = 0 := by rw [renE, if_pos fresh_may, if_pos (name_may h1 h2), hh, if_pos rfl]
  rw [swapP, if_pos hE, hA, if_pos (look_has fresh_may (hh 0)), hS, hR, renL, hR, if_pos rfl, hlk]
  congr 1
  have hr1 : remL (pl ++ [⟨freshN, b, b.length⟩]) freshN = pl := by
    rw [remL, List.filter_append]
    have : pl.filter (fun f => decide (f.name ≠ freshN)) = pl := by rw [List.filter_eq_self]; intro f hf2; simpa using hno f hf2
    rw [this]; simp
  simp only
  rw [hr1]
theorem rems_all {pl : List PF} {ns : List Int} (h : ∀ f ∈ pl, ∃ m ∈ ns, f.name = nameS m) : remsL pl ns = [] := by
  rw [remsL, List.filter_eq_nil_iff]
  intro f hf
  obtain ⟨m, hm, e⟩ := h f hf
  simp only [Bool.not_eq_true', Bool.not_eq_false, List.any_eq_true, decide_eq_true_eq]
  exact ⟨m, hm, e⟩
theorem replace_log {room : Int} {bs : List (List UInt8)} (hb : ∀ b ∈ bs, mayP b = 0) (hcnt : cntL D c ≤ 60) (hr : ((frameB [] ++ bs.flatMap frameB).length : Int) ≤ room - (usedF D c : Int)) :
    replaceP room (logL D c s) bs = (0, [⟨nameS ((cntL D c + 1 : Nat) : Int), frameB [] ++ bs.flatMap frameB, (frameB [] ++ bs.flatMap frameB).length⟩]) := by
  have hlast := last_log (s := s) (D := D) (c := c) (by omega)
  have hm : mayL bs = 0 := by
    have := mayL_ok (rs := bs.map fun b => (⟨none, 0, b⟩ : RB)) (fun q hq => by obtain ⟨b, hb2, rfl⟩ := List.mem_map.1 hq; exact hb b hb2)
    rw [List.map_map, show (RB.b ∘ fun b => (⟨none, 0, b⟩ : RB)) = id from rfl, List.map_id] at this
    exact this
  have e1 : lastP (logL D c s) + 1 = ((cntL D c + 1 : Nat) : Int) := by rw [hlast]; omega
  have hs := swap_new (room := room) (pl := logL D c s) (b := frameB [] ++ bs.flatMap frameB) (n := ((cntL D c + 1 : Nat) : Int)) (by omega) (by omega) no_fresh (by rw [logL_len]; omega) (by rw [used_log]; exact hr)
  have hno := no_new (s := s) (D := D) (c := c) (k := cntL D c + 1) (by omega) (by omega) (by omega)
  rw [replaceP, if_neg (by simpa using hm), if_neg (by rw [e1]; omega), e1, hs, if_pos rfl, rem_no hno]
  congr 1
  rw [remsL, List.filter_append]
  have h0 := rems_all (pl := logL D c s) (ns := segsL (logL D c s)) fun f hf => by
    obtain ⟨k, k1, k2, e⟩ := logL_mem hf
    exact ⟨(k : Int), by rw [segs_log (by omega), upL_mem]; omega, e⟩
  rw [remsL] at h0
  rw [h0, List.nil_append, List.filter_eq_self]
  intro f hf
  simp only [List.mem_singleton] at hf
  subst hf
  simp only [Bool.not_eq_true', List.any_eq_false, decide_eq_true_eq]
  intro m hm2 e
  rw [segs_log (by omega), upL_mem] at hm2
  have := name_inj (n := ((cntL D c + 1 : Nat) : Int)) (m := m) (by omega) (by omega) (by omega) (by omega) e
  omega
end
/-! ### segments one behind the other -/
def runN (i n : Nat) : List Int := (List.range' i n).map fun k => ((k : Nat) : Int)
theorem runN_succ (i n : Nat) : runN i (n + 1) = (i : Int) :: runN (i + 1) n := by rw [runN, List.range'_succ]; rfl
theorem runN_len (i n : Nat) : (runN i n).length = n := by rw [runN, List.length_map, List.length_range']
theorem runN_snoc (i n : Nat) : runN i (n + 1) = runN i n ++ [((i + n : Nat) : Int)] := by rw [runN, runN, List.range'_1_concat, List.map_append]; rfl
theorem runN_mem {i n : Nat} {x : Int} : x ∈ runN i n ↔ (i : Int) ≤ x ∧ x < ((i + n : Nat) : Int) := by
  rw [runN, List.mem_map]
  constructor
  · rintro ⟨k, hk, rfl⟩
    rw [List.mem_range'_1] at hk
    omega
  · rintro ⟨h1, h2⟩
    exact ⟨x.toNat, by rw [List.mem_range'_1]; omega, by omega⟩
theorem runN_rise (i n : Nat) : (runN i n).Pairwise (· < ·) := by
  rw [runN, List.pairwise_map]
  exact (List.pairwise_lt_range' ..).imp fun h => by omega
def Named (i n : Nat) (pl : List PF) : Prop := pl.map (·.name) = (runN i n).map nameS
theorem has_map {pl : List PF} {s : ByteArray} : hasL pl s = true ↔ s ∈ pl.map (·.name) := by
  rw [hasL_iff, List.mem_map]
section
variable {i n : Nat} {pl : List PF}
theorem Named.nodup (h : Named i n pl) (h1 : 1 ≤ i) (h2 : i + n ≤ 999999999) : (pl.map (·.name)).Nodup := by
  rw [h, List.Nodup, List.pairwise_map]
  refine (runN_rise i n).imp_of_mem fun {a b} ha hb hlt e => ?_
  rw [runN_mem] at ha hb
  have := name_inj (n := a) (m := b) (by omega) (by omega) (by omega) (by omega) e
  omega
theorem Named.segs (h : Named i n pl) (h1 : 1 ≤ i) (h2 : i + n ≤ 999999999) : segsL pl = runN i n := by
  refine rising_eq (segsL_rise (h.nodup h1 h2)) (runN_rise _ _) fun x => ?_
  rw [segsL_mem, has_map, h, List.mem_map]
  constructor
  · rintro ⟨x1, x2, y, hy, e⟩
    have hy2 := hy
    rw [runN_mem] at hy2
    have := name_inj (n := y) (m := x) (by omega) (by omega) x1 x2 e
    exact this ▸ hy
  · intro hx
    have hx2 := hx
    rw [runN_mem] at hx2
    exact ⟨by omega, by omega, x, hx, rfl⟩
theorem Named.fresh (h : Named i n pl) : hasL pl freshN = false := by
  rw [Bool.eq_false_iff]; intro hh
  rw [has_map, h, List.mem_map] at hh
  obtain ⟨y, _, e⟩ := hh
  exact fresh_not _ e
theorem names_syncs (pl : List PF) (ns : List Int) : (syncsL pl ns).map (·.name) = pl.map (·.name) := by
  rw [syncsL, List.map_map]
  refine List.map_congr_left fun f _ => ?_
  simp only [Function.comp]
  split <;> rfl
theorem bytes_syncs (pl : List PF) (ns : List Int) : (syncsL pl ns).map (·.bytes) = pl.map (·.bytes) := by
  rw [syncsL, List.map_map]
  refine List.map_congr_left fun f _ => ?_
  simp only [Function.comp]
  split <;> rfl
theorem read_of : ∀ {a b : List PF}, a.map (·.name) = b.map (·.name) → a.map (·.bytes) = b.map (·.bytes) → ∀ s, readB a s = readB b s
  | [], [], _, _, s => rfl
  | [], _ :: _, h, _, _ => by cases h
  | _ :: _, [], h, _, _ => by cases h
  | f :: a, g :: b, h1, h2, s => by
    simp only [List.map_cons, List.cons.injEq] at h1 h2
    have ih := read_of h1.2 h2.2 s
    rw [readB, readB, lookL, lookL] at ih ⊢
    rw [List.find?_cons, List.find?_cons, h1.1]
    split
    · simp [h2.1]
    · exact ih
theorem read_mem (hn : (pl.map (·.name)).Nodup) {f : PF} (hf : f ∈ pl) : readB pl f.name = f.bytes := by rw [readB, lookL_mem hn hf]; rfl
/-- each segment holds whole frames -/
def Whole (pl : List PF) : List Int → List (List (List UInt8)) → Prop
  | [], [] => True
  | n :: r, rs :: t => readB pl (nameS n) = rs.flatMap frameB ∧ (∀ p ∈ rs, p.length ≤ 65536) ∧ Whole pl r t
  | _, _ => False
theorem Whole.same {pl' : List PF} (e : ∀ s, readB pl' s = readB pl s) : ∀ {ns : List Int} {R : List (List (List UInt8))}, Whole pl ns R → Whole pl' ns R
  | [], [], _ => trivial
  | n :: r, rs :: t, h => ⟨(e _).trans h.1, h.2.1, Whole.same e h.2.2⟩
  | [], _ :: _, h => h.elim
  | _ :: _, [], h => h.elim
theorem Whole.app : ∀ {ns ms : List Int} {R T : List (List (List UInt8))}, Whole pl ns R → Whole pl ms T → Whole pl (ns ++ ms) (R ++ T)
  | [], _, [], _, _, h2 => h2
  | n :: r, _, rs :: t, _, h, h2 => ⟨h.1, h.2.1, Whole.app h.2.2 h2⟩
  | [], _, _ :: _, _, h, _ => h.elim
  | _ :: _, _, [], _, h, _ => h.elim
theorem readP_whole {room : Int} : ∀ {ns : List Int} {R : List (List (List UInt8))}, Whole pl ns R → ∀ (more : List Int) (acc : List (List UInt8)), readP room pl (ns ++ more) acc = readP room pl more (R.flatten.foldl stepB acc)
  | [], [], _, more, acc => rfl
  | n :: r, rs :: t, h, more, acc => by
    obtain ⟨h1, h2, h3⟩ := h
    have hf := frames_all rs h2
    rw [List.cons_append, readP, if_pos (by rw [h1, hf]), h1, hf, readP_whole h3, List.flatten_cons, List.foldl_append]
  | [], _ :: _, h, _, _ => h.elim
  | _ :: _, [], h, _, _ => h.elim
theorem whole_of (hn : (pl.map (·.name)).Nodup) : ∀ {l : List PF} {i : Nat} {R : List (List (List UInt8))}, (∀ f ∈ l, f ∈ pl) → l.map (·.name) = (runN i l.length).map nameS → l.map (·.bytes) = R.map (fun rs => rs.flatMap frameB) → (∀ rs ∈ R, ∀ p ∈ rs, p.length ≤ 65536) → Whole pl (runN i l.length) R
  | [], i, [], _, _, _, _ => trivial
  | [], i, _ :: _, _, _, h, _ => by cases h
  | _ :: _, i, [], _, _, h, _ => by cases h
  | f :: l, i, rs :: R, hs, h1, h2, h3 => by
    rw [List.length_cons, runN_succ] at h1 ⊢
    simp only [List.map_cons, List.cons.injEq] at h1 h2
    refine ⟨?_, h3 rs (by simp), whole_of hn (fun g hg => hs g (by simp [hg])) h1.2 h2.2 fun r hr => h3 r (by simp [hr])⟩
    rw [← h1.1, read_mem hn (hs f (by simp)), h2.1]
theorem open_whole {room : Int} {R : List (List (List UInt8))} (hN : Named i n pl) (h1 : 1 ≤ i) (h2 : i + n ≤ 999999999) (hW : Whole pl (runN i n) R) : openP room pl = (0, R.flatten.foldl stepB [], syncsL pl (runN i n)) := by
  have e : readAll room pl = (0, R.flatten.foldl stepB [], pl) := by
    have := readP_whole (room := room) hW [] []
    rw [List.append_nil] at this
    unfold readAll
    rw [hN.segs h1 h2, this, readP]
  rw [openP, rem_no hN.fresh, e, if_pos rfl, hN.segs h1 h2]
end
/-! ### what a crash leaves -/
def kpt (keep : Int) (m : Nat) : Nat := (keep % 18446744073709551616).toNat % (m + 1)
theorem kpt_le (keep : Int) (m : Nat) : kpt keep m ≤ m := by
  have := Nat.mod_lt (keep % 18446744073709551616).toNat (show 0 < m + 1 by omega)
  rw [kpt]; omega
def tornF (keep : Int) (f : PF) : PF := ⟨f.name, f.bytes.take (f.synced + kpt keep (f.bytes.length - f.synced)), (f.bytes.take (f.synced + kpt keep (f.bytes.length - f.synced))).length⟩
def tearsP (pl : List PF) (keep : Int) : List PTear := (namesS pl).map fun n => ⟨n, ((kpt keep (sizeB pl n - syncB pl n) : Nat) : Int), []⟩
theorem torn_tears {room : Int} {pl : List PF} {keep : Int} (h : PLOk room pl) : ∀ (ns : List ByteArray) (seen : List ByteArray), (∀ n ∈ ns, hasL pl n = true) → ns.Nodup → (∀ n ∈ ns, ¬ n ∈ seen) → tornE pl (ns.map fun n => (⟨n, ((kpt keep (sizeB pl n - syncB pl n) : Nat) : Int), []⟩ : PTear)) seen = 0
  | [], _, _, _, _ => rfl
  | n :: ns, seen, h1, h2, h3 => by
    obtain ⟨f, hf, rfl⟩ := hasL_iff.1 (h1 n (by simp))
    have hl := lookL_mem h.nodup hf
    have hs := h.sync f hf
    have hk := kpt_le keep (f.bytes.length - f.synced)
    rw [List.map_cons, tornE, if_pos (h.may f hf), hl]
    simp only
    have e1 : sizeB pl f.name - syncB pl f.name = f.bytes.length - f.synced := by rw [sizeB, syncB, hl]; rfl
    rw [if_neg]
    · rw [List.nodup_cons] at h2
      refine torn_tears h ns _ (fun m hm => h1 m (by simp [hm])) h2.2 fun m hm hm2 => ?_
      rcases List.mem_cons.1 hm2 with e | hm2
      · subst e; exact h2.1 hm
      · exact h3 m (by simp [hm]) hm2
    · rintro (hc | hc)
      · obtain ⟨s, hs2, e⟩ := List.any_eq_true.1 hc
        have : s = f.name := by simpa using e
        subst this
        exact h3 _ (by simp) hs2
      · rw [e1, tearOk] at hc
        simp only [List.length_nil, Bool.and_eq_false_iff, decide_eq_false_iff_not] at hc
        omega
theorem crash_tears {room : Int} {pl : List PF} (keep : Int) (h : PLOk room pl) : tornE pl (tearsP pl keep) [] = 0 ∧ crashL pl (tearsP pl keep) = pl.map (tornF keep) := by
  have hno : ∀ n, n ∈ namesS pl ↔ hasL pl n = true := fun n => by rw [namesS, sortN_mem.mem_iff, has_map]
  have he : tornE pl (tearsP pl keep) [] = 0 := torn_tears h _ [] (fun n hn => (hno n).1 hn) (by rw [namesS, sortN_mem.nodup_iff]; exact h.nodup) (fun _ _ h => by cases h)
  refine ⟨he, ?_⟩
  rw [crashL, if_pos he]
  refine List.map_congr_left fun f hf => ?_
  have hl := lookL_mem h.nodup hf
  have hm : f.name ∈ namesS pl := (hno _).2 (hasL_iff.2 ⟨f, hf, rfl⟩)
  have hfi : (tearsP pl keep).find? (fun t => decide (t.name = f.name)) = some ⟨f.name, ((kpt keep (sizeB pl f.name - syncB pl f.name) : Nat) : Int), []⟩ := by
    rw [tearsP, List.find?_map]
    have : (namesS pl).find? ((fun t : PTear => decide (t.name = f.name)) ∘ fun n => (⟨n, ((kpt keep (sizeB pl n - syncB pl n) : Nat) : Int), []⟩ : PTear)) = some f.name := by
      generalize namesS pl = l at hm
      induction l with
      | nil => cases hm
      | cons x l ih =>
        rw [List.find?_cons]
        by_cases c : x = f.name
        · subst c; simp
        · rcases List.mem_cons.1 hm with e | hm
          · exact absurd e.symm c
          · simp only [Function.comp, decide_eq_false c]
            exact ih hm
    rw [this]; rfl
  rw [crashF, hfi]
  have e1 : sizeB pl f.name - syncB pl f.name = f.bytes.length - f.synced := by rw [sizeB, syncB, hl]; rfl
  simp only [tornB, e1, Int.toNat_natCast, List.append_nil]
  rfl
theorem frames_torn : ∀ (c : List (List UInt8)) (k : Nat), (∀ p ∈ c, p.length ≤ 65536) → ∃ j rest, j ≤ c.length ∧ framesR ((c.flatMap frameB).take k) = (c.take j, rest) ∧ (c.flatMap frameB).take k = (c.take j).flatMap frameB ++ rest ∧ ∀ m, m ≤ c.length → lenF (c.take m) ≤ k → m ≤ j
  | [], k, _ => ⟨0, [], Nat.le_refl _, by simp [framesR_nil], by simp, fun m hm _ => hm⟩
  | p :: c, k, h => by
    have hp := h p (by simp)
    by_cases hk : (frameB p).length ≤ k
    · obtain ⟨j, rest, h1, h2, h3, h4⟩ := frames_torn c (k - (frameB p).length) fun q hq => h q (by simp [hq])
      have e : ((p :: c).flatMap frameB).take k = frameB p ++ (c.flatMap frameB).take (k - (frameB p).length) := by
        rw [List.flatMap_cons, List.take_append, List.take_of_length_le hk]
      refine ⟨j + 1, rest, by simp only [List.length_cons]; omega, ?_, ?_, ?_⟩
      · rw [e, framesR_ok (by simp [frameB_ne]) (unf_frame hp), h2]; rfl
      · rw [e, h3, List.take_succ_cons, List.flatMap_cons, List.append_assoc]
      · intro m hm hl
        cases m with
        | zero => omega
        | succ m =>
          have := h4 m (by simpa using hm) (by
            rw [List.take_succ_cons, lenF, List.flatMap_cons, List.length_append] at hl
            rw [lenF]; omega)
          omega
    · have e : ((p :: c).flatMap frameB).take k = (frameB p).take k := by
        rw [List.flatMap_cons, List.take_append_of_le_length (by omega)]
      refine ⟨0, (frameB p).take k, by omega, ?_, by simpa using e, ?_⟩
      · rw [e]
        by_cases k0 : k = 0
        · subst k0; rw [List.take_zero, framesR_nil]; rfl
        · obtain ⟨er, he⟩ := unf_pre (p := p) (m := k) hp (by omega)
          refine framesR_err (fun e0 => ?_) he
          have := congrArg List.length e0
          rw [List.length_take, List.length_nil] at this
          omega
      · intro m hm hl
        cases m with
        | zero => omega
        | succ m =>
          rw [List.take_succ_cons, lenF, List.flatMap_cons, List.length_append] at hl
          omega
/-! ### a log, records told -/
def LogAt (syn : Nat) (rs : List (List UInt8)) (pl : List PF) : Prop :=
  ∃ (D : List (List (List UInt8))) (c : List (List UInt8)) (m : Nat), pl = logL D c (lenF (c.take m)) ∧ D.flatten ++ c = rs ∧ (c = [] → D = []) ∧ cntL D c ≤ rs.length ∧ m ≤ c.length ∧ syn ≤ D.flatten.length + m
theorem logAt_nil : LogAt 0 [] [] := ⟨[], [], 0, rfl, rfl, fun _ => rfl, Nat.le_refl _, Nat.le_refl _, Nat.le_refl _⟩
theorem lenF_le : ∀ {rs : List (List UInt8)}, (∀ p ∈ rs, p.length ≤ 5000) → lenF rs ≤ 5013 * rs.length
  | [], _ => Nat.le_refl _
  | p :: rs, h => by
    have h1 := h p (by simp)
    have h2 := lenF_le fun q hq => h q (List.mem_cons_of_mem p hq)
    have h3 := frameB_len p (by omega)
    rw [lenF] at h2 ⊢
    rw [List.flatMap_cons, List.length_append, List.length_cons]
    omega
section
variable {syn : Nat} {rs : List (List UInt8)} {pl : List PF}
theorem LogAt.append (h : LogAt syn rs pl) {b : List UInt8} (h0 : 0 < b.length) (h1 : b.length ≤ 5000) (hr : rs.length ≤ 50) (hrs : ∀ p ∈ rs, p.length ≤ 5000) : (appendP 4194304 pl b).1 = 0 ∧ LogAt syn (rs ++ [b]) (appendP 4194304 pl b).2 := by
  obtain ⟨D, c, m, rfl, rfl, hD, hcnt, hm, hsyn⟩ := h
  have hf := frameB_len b (by omega)
  have hu : usedF D c ≤ 5013 * (D.flatten ++ c).length := lenF_le hrs
  have := append_log (room := 4194304) (s := lenF (c.take m)) (b := b) (D := D) (c := c) h0 (by omega) (by omega) hD (by omega)
  rw [this]
  refine ⟨rfl, ?_⟩
  rw [stepA]
  by_cases c0 : c = []
  · have d0 := hD c0
    subst c0; subst d0
    rw [if_pos rfl]
    refine ⟨[], [b], 0, rfl, rfl, (fun h => by cases h), Nat.le_refl _, by simp, ?_⟩
    simp at hm hsyn
    omega
  · rw [if_neg c0]
    split
    · refine ⟨D ++ [c], [b], 0, rfl, by simp, (fun h => by cases h), ?_, by simp, ?_⟩
      · rw [cntL, if_neg c0] at hcnt
        rw [cntL, if_neg (by simp)]
        simp at hcnt ⊢; omega
      · rw [List.flatten_append, List.length_append]
        simp only [List.flatten_cons, List.flatten_nil, List.append_nil]; omega
    · refine ⟨D, c ++ [b], m, ?_, by simp, (fun h => by simp at h), ?_, by simp; omega, hsyn⟩
      · rw [List.take_append_of_le_length hm]
      · rw [cntL, if_neg c0] at hcnt
        rw [cntL, if_neg (by simp)]
        simp at hcnt ⊢; omega
theorem LogAt.sync (h : LogAt syn rs pl) (hr : rs.length ≤ 50) : LogAt rs.length rs (syncP pl) := by
  obtain ⟨D, c, m, rfl, rfl, hD, hcnt, hm, hsyn⟩ := h
  have hl := last_log (s := lenF (c.take m)) (D := D) (c := c) (by omega)
  rw [syncP, hl]
  by_cases c0 : c = []
  · have d0 := hD c0
    subst c0; subst d0
    have e0 : ((cntL [] [] : Nat) : Int) = 0 := rfl
    rw [if_pos e0]
    exact ⟨[], [], 0, rfl, rfl, fun _ => rfl, Nat.le_refl _, Nat.le_refl _, Nat.le_refl _⟩
  · have e : cntL D c = D.length + 1 := by rw [cntL, if_neg c0]
    rw [e, if_neg (by omega), sync_cur (by omega) c0]
    exact ⟨D, c, c.length, by rw [List.take_length], rfl, hD, hcnt, Nat.le_refl _, by simp⟩
/-- a disk whose segments hold whole frames -/
def Settled (pl : List PF) (recs : List (List UInt8)) : Prop := ∃ n R, Named 1 n pl ∧ n ≤ 60 ∧ Whole pl (runN 1 n) R ∧ R.flatten = recs
theorem Settled.open {recs : List (List UInt8)} (h : Settled pl recs) (hne : ∀ p ∈ recs, p ≠ []) {room : Int} : (openP room pl).1 = 0 ∧ (openP room pl).2.1 = recs ∧ (∀ s, readB (openP room pl).2.2 s = readB pl s) ∧ (openP room pl).2.2.map (·.name) = pl.map (·.name) := by
  obtain ⟨n, R, h1, h2, h3, rfl⟩ := h
  rw [open_whole h1 (by decide) (by omega) h3, steps_all _ _ hne]
  exact ⟨rfl, by simp, fun s => read_of (names_syncs _ _) (bytes_syncs _ _) s, names_syncs _ _⟩
theorem syncs_settled {n : Nat} {R : List (List (List UInt8))} (h1 : Named 1 n pl) (h2 : n ≤ 60) (h3 : Whole pl (runN 1 n) R) (ns : List Int) : Settled (syncsL pl ns) R.flatten :=
  ⟨n, R, (names_syncs pl ns).trans h1, h2, h3.same fun s => read_of (names_syncs _ _) (bytes_syncs _ _) s, rfl⟩
theorem done_named : ∀ (D : List (List (List UInt8))) (i : Nat), Named i D.length (doneL i D)
  | [], _ => rfl
  | x :: D, i => by
    have := done_named D (i + 1)
    rw [Named] at this ⊢
    rw [doneL, List.length_cons, runN_succ, List.map_cons, List.map_cons, this]; rfl
theorem done_bytes : ∀ (D : List (List (List UInt8))) (i : Nat), (doneL i D).map (·.bytes) = D.map fun rs => rs.flatMap frameB
  | [], _ => rfl
  | x :: D, i => by rw [doneL, List.map_cons, List.map_cons, done_bytes D]; rfl
theorem torn_full {keep : Int} {f : PF} (h : f.synced = f.bytes.length) : tornF keep f = f := by
  obtain ⟨n, b, s⟩ := f
  simp only at h
  subst h
  simp [tornF, kpt, Nat.mod_one]
theorem done_torn (keep : Int) : ∀ (D : List (List (List UInt8))) (i : Nat), (doneL i D).map (tornF keep) = doneL i D
  | [], _ => rfl
  | x :: D, i => by
    rw [doneL, List.map_cons, done_torn keep D]
    rw [torn_full (f := segF i x (lenF x)) rfl]
theorem LogAt.crashed (h : LogAt syn rs pl) (hr : rs.length ≤ 50) (hrs : ∀ p ∈ rs, p ≠ [] ∧ p.length ≤ 5000) (keep : Int) :
    ∃ j, syn ≤ j ∧ j ≤ rs.length ∧ (openP 4194304 (pl.map (tornF keep))).1 = 0 ∧ (openP 4194304 (pl.map (tornF keep))).2.1 = rs.take j ∧ Settled (openP 4194304 (pl.map (tornF keep))).2.2 (rs.take j) := by
  obtain ⟨D, c, m, rfl, rfl, hD, hcnt, hm, hsyn⟩ := h
  by_cases c0 : c = []
  · have d0 := hD c0
    subst c0; subst d0
    simp at hm hsyn
    refine ⟨0, by omega, Nat.le_refl _, ?_⟩
    have e : (logL [] [] (lenF (([] : List (List UInt8)).take m))).map (tornF keep) = [] := rfl
    rw [e, open_nil]
    exact ⟨rfl, rfl, 0, [], rfl, by omega, trivial, rfl⟩
  · have hcl : cntL D c = D.length + 1 := by rw [cntL, if_neg c0]
    have hc1 : ∀ p ∈ c, p ≠ [] ∧ p.length ≤ 5000 := fun p hp => hrs p (List.mem_append_right _ hp)
    have hd1 : ∀ r ∈ D, ∀ p ∈ r, p ≠ [] ∧ p.length ≤ 5000 := fun r hr p hp => hrs p (List.mem_append_left _ (List.mem_flatten.2 ⟨r, hr, hp⟩))
    obtain ⟨k, hk1, hk2⟩ : ∃ k, lenF (c.take m) ≤ k ∧ tornF keep (segF (D.length + 1) c (lenF (c.take m))) = ⟨nameS ((D.length + 1 : Nat) : Int), (c.flatMap frameB).take k, ((c.flatMap frameB).take k).length⟩ :=
      ⟨lenF (c.take m) + kpt keep ((c.flatMap frameB).length - lenF (c.take m)), by omega, rfl⟩
    obtain ⟨j, rest, hj1, hj2, hj3, hj4⟩ := frames_torn c k fun p hp => by have := (hc1 p hp).2; omega
    have hmj := hj4 m hm hk1
    have hpl : (logL D c (lenF (c.take m))).map (tornF keep) = doneL 1 D ++ [⟨nameS ((D.length + 1 : Nat) : Int), (c.flatMap frameB).take k, ((c.flatMap frameB).take k).length⟩] := by
      rw [logL, List.map_append, done_torn, curL, if_neg c0, List.map_cons, List.map_nil, hk2]
    rw [hpl]
    generalize hT : (⟨nameS ((D.length + 1 : Nat) : Int), (c.flatMap frameB).take k, ((c.flatMap frameB).take k).length⟩ : PF) = T
    have hTn : T.name = nameS ((D.length + 1 : Nat) : Int) := by rw [← hT]
    have hTb : T.bytes = (c.flatMap frameB).take k := by rw [← hT]
    have hdn := done_named D 1
    have hN : ∀ U : PF, U.name = nameS ((D.length + 1 : Nat) : Int) → Named 1 (D.length + 1) (doneL 1 D ++ [U]) := fun U hU => by
      rw [Named] at hdn ⊢
      rw [List.map_append, hdn, runN_snoc, List.map_append, List.map_cons, List.map_nil, hU, Nat.add_comm 1 D.length]; rfl
    have hDl : D.length ≤ 50 := by omega
    have hWD : ∀ U : PF, U.name = nameS ((D.length + 1 : Nat) : Int) → Whole (doneL 1 D ++ [U]) (runN 1 D.length) D := fun U hU => by
      have := whole_of ((hN U hU).nodup (by decide) (by omega)) (l := doneL 1 D) (i := 1) (R := D) (fun f hf => List.mem_append_left _ hf) (by rw [doneL_len]; exact hdn) (done_bytes D 1) fun r hr p hp => by have := (hd1 r hr p hp).2; omega
      rwa [doneL_len] at this
    have hrU : ∀ U : PF, U.name = nameS ((D.length + 1 : Nat) : Int) → readB (doneL 1 D ++ [U]) (nameS ((D.length + 1 : Nat) : Int)) = U.bytes := fun U hU => by
      have := read_mem ((hN U hU).nodup (by decide) (by omega)) (f := U) (by simp)
      rwa [hU] at this
    have hseg : runN 1 (D.length + 1) = runN 1 D.length ++ [((D.length + 1 : Nat) : Int)] := by rw [runN_snoc, Nat.add_comm 1 D.length]
    have hcj : ∀ p ∈ c.take j, p ≠ [] := fun p hp => (hc1 p (List.mem_of_mem_take hp)).1
    have hDf : D.flatten.foldl stepB [] = D.flatten := by rw [steps_all _ _ fun p hp => by obtain ⟨r, hr, hp⟩ := List.mem_flatten.1 hp; exact (hd1 r hr p hp).1]; rfl
    have htake : (D.flatten ++ c).take (D.flatten.length + j) = D.flatten ++ c.take j := by rw [List.take_append, List.take_of_length_le (by omega)]; simp
    refine ⟨D.flatten.length + j, by omega, by simp; omega, ?_⟩
    rw [htake]
    have hWU : ∀ U : PF, U.name = nameS ((D.length + 1 : Nat) : Int) → U.bytes = (c.take j).flatMap frameB → Whole (doneL 1 D ++ [U]) (runN 1 (D.length + 1)) (D ++ [c.take j]) := fun U hU hB => by
      rw [hseg]
      exact (hWD U hU).app ⟨by rw [hrU U hU, hB], fun p hp => by have := (hc1 p (List.mem_of_mem_take hp)).2; omega, trivial⟩
    have hfl : (D ++ [c.take j]).flatten = D.flatten ++ c.take j := by simp
    have hread : readAll 4194304 (doneL 1 D ++ [T]) = readP 4194304 (doneL 1 D ++ [T]) [((D.length + 1 : Nat) : Int)] D.flatten := by
      unfold readAll
      rw [(hN T hTn).segs (by decide) (by omega), hseg, readP_whole (hWD T hTn), hDf]
    have hstep : (c.take j).foldl stepB D.flatten = D.flatten ++ c.take j := steps_all _ _ hcj
    by_cases r0 : rest = []
    · subst r0
      rw [List.append_nil] at hj3
      have e : readAll 4194304 (doneL 1 D ++ [T]) = (0, D.flatten ++ c.take j, doneL 1 D ++ [T]) := by
        rw [hread, readP, hrU T hTn, hTb, hj2, if_pos rfl, readP]
        show (0, (c.take j).foldl stepB D.flatten, _) = _
        rw [hstep]
      rw [openP, rem_no (hN T hTn).fresh, e, if_pos rfl]
      refine ⟨rfl, rfl, ?_⟩
      have := syncs_settled (hN T hTn) (by omega) (hWU T hTn (by rw [hTb, hj3])) (segsL (doneL 1 D ++ [T]))
      rwa [hfl] at this
    · have hlen : ((c.flatMap frameB).take k).length - rest.length = ((c.take j).flatMap frameB).length := by rw [hj3, List.length_append]; omega
      have hcut : ((c.flatMap frameB).take k).take (((c.flatMap frameB).take k).length - rest.length) = (c.take j).flatMap frameB := by rw [hlen, hj3, List.take_left]
      have hrem : remL (doneL 1 D ++ [T]) (nameS ((D.length + 1 : Nat) : Int)) = doneL 1 D := by
        rw [remL, List.filter_append]
        have h1 : (doneL 1 D).filter (fun f => decide (f.name ≠ nameS ((D.length + 1 : Nat) : Int))) = doneL 1 D := by
          rw [List.filter_eq_self]; intro f hf; simpa using done_ne (D := D) (c := c) (by omega) c0 f hf
        rw [h1]; simp [hTn]
      have hgo : ∀ Q : List PF, cutP 4194304 (doneL 1 D ++ [T]) ((c.take j).flatMap frameB) ((D.length + 1 : Nat) : Int) [] = (0, Q) → readAll 4194304 (doneL 1 D ++ [T]) = (0, D.flatten ++ c.take j, Q) := fun Q hQ => by
        rw [hread, readP, hrU T hTn, hTb, hj2, if_neg r0]
        simp only
        rw [hcut, hQ, if_pos rfl, hstep]
      by_cases b0 : (c.take j).flatMap frameB = []
      · have hj0 : c.take j = [] := by
          cases hc : c.take j with
          | nil => rfl
          | cons p t => rw [hc, List.flatMap_cons] at b0; exact absurd (List.append_eq_nil_iff.1 b0).1 frameB_ne
        have e := hgo (doneL 1 D) (by rw [cut_rem b0, hrem, remsL_nil])
        rw [openP, rem_no (hN T hTn).fresh, e, if_pos rfl]
        refine ⟨rfl, rfl, ?_⟩
        have hW := whole_of (hdn.nodup (by decide) (by omega)) (l := doneL 1 D) (i := 1) (R := D) (fun f hf => hf) (by rw [doneL_len]; exact hdn) (done_bytes D 1) fun r hr p hp => by have := (hd1 r hr p hp).2; omega
        rw [doneL_len] at hW
        have := syncs_settled hdn (by omega) hW (segsL (doneL 1 D))
        rw [hj0, List.append_nil]
        exact this
      · have hu1 : usedL (doneL 1 D ++ [T]) ≤ usedF D c := by
          rw [used_append, used_done, usedF, lenF_app]
          simp only [usedL, List.map_cons, List.map_nil, List.sum_cons, List.sum_nil, hTb, List.length_take, lenF]
          omega
        have hu2 : usedF D c ≤ 5013 * (D.flatten ++ c).length := lenF_le fun p hp => (hrs p hp).2
        have hb : ((c.take j).flatMap frameB).length ≤ usedF D c := by
          rw [usedF, lenF_app, lenF, lenF]
          have := congrArg List.length hj3
          rw [List.length_append, List.length_take] at this
          omega
        have hsw := swap_new (room := 4194304) (pl := doneL 1 D ++ [T]) (b := (c.take j).flatMap frameB) (n := ((D.length + 1 : Nat) : Int)) (by omega) (by omega) (hN T hTn).fresh (by rw [List.length_append, doneL_len]; simp; omega) (by omega)
        rw [hrem] at hsw
        have e := hgo _ (by rw [cut_swap b0 (by rw [hsw]), hsw, remsL_nil])
        generalize hT2 : (⟨nameS ((D.length + 1 : Nat) : Int), (c.take j).flatMap frameB, ((c.take j).flatMap frameB).length⟩ : PF) = T2 at e
        have hTn2 : T2.name = nameS ((D.length + 1 : Nat) : Int) := by rw [← hT2]
        have hTb2 : T2.bytes = (c.take j).flatMap frameB := by rw [← hT2]
        rw [openP, rem_no (hN T hTn).fresh, e, if_pos rfl]
        refine ⟨rfl, rfl, ?_⟩
        have := syncs_settled (hN T2 hTn2) (by omega) (hWU T2 hTn2 hTb2) (segsL (doneL 1 D ++ [T2]))
        rwa [hfl] at this
theorem LogAt.replace (h : LogAt syn rs pl) (hr : rs.length ≤ 25) (hrs : ∀ p ∈ rs, p.length ≤ 5000) {bs : List (List UInt8)} (hl : bs.length ≤ 25) (hb : ∀ p ∈ bs, 0 < p.length ∧ p.length ≤ 5000) (keep : Int) :
    (replaceP 4194304 pl bs).1 = 0 ∧ (segsL (replaceP 4194304 pl bs).2).length = 1 ∧ (openP 4194304 ((replaceP 4194304 pl bs).2.map (tornF keep))).1 = 0 ∧ (openP 4194304 ((replaceP 4194304 pl bs).2.map (tornF keep))).2.1 = bs := by
  obtain ⟨D, c, m, rfl, rfl, hD, hcnt, hm, hsyn⟩ := h
  have hu : usedF D c ≤ 5013 * (D.flatten ++ c).length := lenF_le hrs
  have hlb : lenF bs ≤ 5013 * bs.length := lenF_le fun p hp => (hb p hp).2
  rw [lenF] at hlb
  have hfn := frameB_len [] (by decide)
  simp only [List.length_nil] at hfn
  have e := replace_log (room := 4194304) (s := lenF (c.take m)) (D := D) (c := c) (bs := bs) (fun b hb2 => by have := hb b hb2; exact mayP_zero this.1 (by omega)) (by omega) (by rw [List.length_append]; omega)
  rw [e]
  have hB : frameB [] ++ bs.flatMap frameB = (([] : List UInt8) :: bs).flatMap frameB := rfl
  have hN : Named (cntL D c + 1) 1 [(⟨nameS ((cntL D c + 1 : Nat) : Int), frameB [] ++ bs.flatMap frameB, (frameB [] ++ bs.flatMap frameB).length⟩ : PF)] := rfl
  refine ⟨rfl, ?_, ?_⟩
  · rw [hN.segs (by omega) (by omega), runN_len]
  · have e2 : [(⟨nameS ((cntL D c + 1 : Nat) : Int), frameB [] ++ bs.flatMap frameB, (frameB [] ++ bs.flatMap frameB).length⟩ : PF)].map (tornF keep) = [⟨nameS ((cntL D c + 1 : Nat) : Int), frameB [] ++ bs.flatMap frameB, (frameB [] ++ bs.flatMap frameB).length⟩] := by
      rw [List.map_cons, List.map_nil, torn_full rfl]
    simp only [e2]
    have hW : Whole _ (runN (cntL D c + 1) 1) [([] : List UInt8) :: bs] := whole_of (hN.nodup (by omega) (by omega)) (i := cntL D c + 1) (R := [([] : List UInt8) :: bs]) (fun f hf => hf) hN (by simp) fun r hr p hp => by
      simp only [List.mem_singleton] at hr
      subst hr
      rcases List.mem_cons.1 hp with rfl | hp
      · decide
      · have := hb p hp; omega
    rw [open_whole hN (by omega) (by omega) hW]
    refine ⟨rfl, ?_⟩
    simp only [List.flatten_cons, List.flatten_nil, List.append_nil, List.foldl_cons]
    rw [stepB, if_pos rfl, steps_all _ _ fun p hp => ne_of_len (hb p hp).1]
    rfl
end




end Go.Proofs.YtnphndfbgdkgbaaGreatDoor
