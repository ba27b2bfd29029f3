/-
  Layer 7: SeglogFull.
-/
import Derived.Test.YtnphndfbgdkgbaaGreatDoorRows
import Derived.Test.YtnphndfbgdkgbaaGreatDoorYf
namespace Go.Proofs.YtnphndfbgdkgbaaGreatDoor
attribute [local irreducible] St1 RL RA RT RT1 Run
attribute [local irreducible] crcN crcL crcS crcB numL leL unfR nameS segsL sortZ segI segO hasP restP
attribute [local irreducible] readAll mayP frameB
/-! ### a disk with one segment -/
def oneL (B : List UInt8) (s : Nat) : List PF := [⟨nameS 1, B, s⟩]
def fullL (T : List (List UInt8)) : List PF := if T = [] then [] else oneL (T.flatMap frameB) 0
theorem segN_one : segN (nameS 1) = 1 := segN_name (n := 1) (by decide) (by decide)
theorem segsL_nil : segsL [] = [] := by
  unfold segsL segI
  have : namesS [] = [] := by simp [namesS, sortN]
  rw [this]; exact sortZ_nil
theorem sortN_one (s : ByteArray) : sortN [s] = [s] := by
  have h := sortN_mem (l := [s])
  have h2 := h.length_eq
  match hl : sortN [s], h2 with
  | [x], _ => rw [hl] at h; have := h.mem_iff.1 (List.mem_singleton.2 rfl); simp at this; rw [this]
theorem segsL_one (B : List UInt8) (s : Nat) : segsL (oneL B s) = [1] := by
  have h1 : namesS (oneL B s) = [nameS 1] := by rw [namesS, oneL]; exact sortN_one _
  have h2 : segI [nameS 1] = [1] := by
    unfold segI
    rw [List.filterMap_cons_some (b := 1), List.filterMap_nil]
    unfold segO
    rw [segN_one]; rfl
  unfold segsL
  rw [h1, h2]
  unfold sortZ
  simp
theorem name1_may : mayN (nameS 1) = true := name_may (by decide) (by decide)
theorem has_one (B : List UInt8) (s : Nat) : hasL (oneL B s) (nameS 1) = true := hasL_iff.2 ⟨_, List.mem_singleton.2 rfl, rfl⟩
theorem look_one (B : List UInt8) (s : Nat) : lookL (oneL B s) (nameS 1) = some ⟨nameS 1, B, s⟩ := by simp [lookL, oneL]
theorem readB_one (B : List UInt8) (s : Nat) : readB (oneL B s) (nameS 1) = B := by rw [readB, look_one]; rfl
theorem sizeB_one (B : List UInt8) (s : Nat) : sizeB (oneL B s) (nameS 1) = B.length := by rw [sizeB, look_one]; rfl
theorem used_one (B : List UInt8) (s : Nat) : usedL (oneL B s) = B.length := by simp [usedL, oneL]
theorem last_nil : lastP [] = 0 := by rw [lastP, segsL_nil]; rfl
theorem last_one (B : List UInt8) (s : Nat) : lastP (oneL B s) = 1 := by rw [lastP, segsL_one]; rfl
theorem rem_fresh_one (B : List UInt8) (s : Nat) : remL (oneL B s) freshN = oneL B s := rem_no (by
  rw [Bool.eq_false_iff]; intro h
  obtain ⟨f, hf, e⟩ := hasL_iff.1 h
  simp only [oneL, List.mem_singleton] at hf
  subst hf
  exact fresh_not 1 e)
theorem readAll_nil (room : Int) : readAll room [] = (0, [], []) := by unfold readAll; rw [segsL_nil]; rfl
theorem open_nil (room : Int) : openP room [] = (0, [], []) := by
  have e : remL [] freshN = [] := rfl
  rw [openP, e, readAll_nil, if_pos rfl, segsL_nil, syncsL_nil]
theorem readAll_one (room : Int) (T : List (List UInt8)) (s : Nat) (h : ∀ p ∈ T, p ≠ [] ∧ p.length ≤ 65536) : readAll room (oneL (T.flatMap frameB) s) = (0, T, oneL (T.flatMap frameB) s) := by
  have hf := frames_all T fun p hp => (h p hp).2
  unfold readAll
  rw [segsL_one, readP, readB_one, if_pos (by rw [hf]), hf, readP, steps_all T [] fun p hp => (h p hp).1]
  rfl
theorem open_one (room : Int) (T : List (List UInt8)) (s : Nat) (h : ∀ p ∈ T, p ≠ [] ∧ p.length ≤ 65536) : openP room (oneL (T.flatMap frameB) s) = (0, T, oneL (T.flatMap frameB) (T.flatMap frameB).length) := by
  rw [openP, rem_fresh_one, readAll_one room T s h, if_pos rfl, segsL_one]
  simp [syncsL, oneL]
theorem open_full (room : Int) (T : List (List UInt8)) (h : ∀ p ∈ T, p ≠ [] ∧ p.length ≤ 65536) : (openP room (fullL T)).1 = 0 ∧ (openP room (fullL T)).2.1 = T := by
  rw [fullL]
  split
  · rename_i h0; subst h0; rw [open_nil]; exact ⟨rfl, rfl⟩
  · rw [open_one room T 0 h]; exact ⟨rfl, rfl⟩
theorem used_full (T : List (List UInt8)) : usedL (fullL T) = (T.flatMap frameB).length := by
  rw [fullL]
  split
  · rename_i h0; subst h0; rfl
  · exact used_one _ _
theorem mayP_zero {b : List UInt8} (h0 : 0 < b.length) (h1 : b.length ≤ 65536) : mayP b = 0 := by unfold mayP; rw [if_neg (ne_of_len h0), if_neg (by omega)]
theorem append_full {room : Int} {T : List (List UInt8)} {b : List UInt8} (h0 : 0 < b.length) (h1 : b.length ≤ 65536) (hu : (usedL (fullL T) : Int) ≤ room) (hr : room < 4096) :
    appendP room (fullL T) b = if ((frameB b).length : Int) ≤ room - (usedL (fullL T) : Int) then (0, fullL (T ++ [b])) else (7, fullL T) := by
  have hm := mayP_zero h0 h1
  have hsz : ¬ (0 < lastP (fullL T) ∧ 4096 ≤ sizeB (fullL T) (nameS (lastP (fullL T)))) := by
    by_cases c : T = []
    · subst c; rw [show fullL [] = [] from if_pos rfl, last_nil]; omega
    · rw [show fullL T = oneL (T.flatMap frameB) 0 from if_neg c] at hu ⊢
      rw [last_one, sizeB_one]
      rw [used_one] at hu
      omega
  have hmx : max (lastP (fullL T)) 1 = 1 := by
    by_cases c : T = []
    · subst c; rw [show fullL [] = [] from if_pos rfl, last_nil]; rfl
    · rw [show fullL T = oneL (T.flatMap frameB) 0 from if_neg c, last_one]; rfl
  rw [appendP, if_neg (by rw [hm]; decide), if_neg hsz, hmx, if_neg (by decide)]
  have hlen : (fullL T).length ≤ 1 := by rw [fullL]; split <;> simp [oneL]
  have hE : appE room (fullL T) (nameS 1) (frameB b) = if ((frameB b).length : Int) ≤ room - (usedL (fullL T) : Int) then 0 else 7 := by
    rw [appE, if_pos name1_may]
    by_cases c : ((frameB b).length : Int) ≤ room - (usedL (fullL T) : Int)
    · rw [if_neg (by omega), if_pos c]
    · rw [if_pos (by omega), if_neg c]
  rw [appL, hE]
  by_cases c : ((frameB b).length : Int) ≤ room - (usedL (fullL T) : Int)
  · rw [if_pos c, if_pos c, if_pos rfl]
    congr 1
    by_cases ct : T = []
    · subst ct
      rw [show fullL [] = [] from if_pos rfl]
      simp [hasL, fullL, oneL]
    · rw [show fullL T = oneL (T.flatMap frameB) 0 from if_neg ct, has_one, if_pos rfl, show fullL (T ++ [b]) = oneL ((T ++ [b]).flatMap frameB) 0 from if_neg (by simp)]
      simp [updL, oneL, List.flatMap_append]
  · rw [if_neg c, if_neg c, if_neg (by decide)]
theorem room_mod (z : Int) : ∃ m : Nat, m < 3000 ∧ IntKind.i64.wrap ((IntKind.u64.wrap z).tmod 3000) = (m : Int) := by
  have h1 : IntKind.u64.wrap z = z % 18446744073709551616 := by simp [IntKind.wrap, IntKind.bits, IntKind.signed]
  rw [h1, Int.tmod_eq_emod_of_nonneg (by omega)]
  refine ⟨((z % 18446744073709551616) % 3000).toNat, by omega, ?_⟩
  rw [wrap64 _ (by omega) (by omega)]
  omega
theorem newDk (room : Int) (w : World) (h : 0 ≤ room ∧ room ≤ 16777216) : Calls Tryz.prog 48 #[.int .i64 room] w (Ret fun v w' => ∃ d F, v = .tuple #[.pointer (some ⟨d, 0, none⟩), .int .i64 0] ∧ DiskAt w' d F room [] ∧ (∀ q, F q → w.heap.size ≤ q) ∧ Ext w w') :=
  ret_mono (newD room w) fun v w' hh => hh.elim (fun h1 => absurd h h1.1) (fun h1 => h1.2)




end Go.Proofs.YtnphndfbgdkgbaaGreatDoor
