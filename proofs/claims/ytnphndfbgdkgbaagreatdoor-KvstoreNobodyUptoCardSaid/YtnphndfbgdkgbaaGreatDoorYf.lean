/-
  Layer 7: what is framed is read; usual, equal.
-/
import Derived.Test.YtnphndfbgdkgbaaGreatDoorRows
import Derived.Test.YtnphndfbgdkgbaaGreatDoorYe
namespace Go.Proofs.YtnphndfbgdkgbaaGreatDoor
attribute [local irreducible] St1 RL RA RT RT1 Run
/-! ### what is framed is read -/
theorem pow128 (i : Nat) (h : i ≤ 8) : 128 ^ (9 - i) = 128 * 128 ^ (9 - (i + 1)) := by
  rw [show 9 - i = (9 - (i + 1)) + 1 by omega, Nat.pow_succ, Nat.mul_comm]
theorem vput_mix (n p : Nat) : n % 128 * p + n / 128 * (128 * p) = n * p := by
  rw [← Nat.mul_assoc, ← Nat.add_mul]
  congr 1
  omega
theorem vbyte (n : Nat) : (UInt8.ofNat (n % 128 + 128)).toNat = n % 128 + 128 := by rw [UInt8.toNat_ofNat']; omega
theorem vbyte2 {n : Nat} (h : n < 128) : (UInt8.ofNat n).toNat = n := by rw [UInt8.toNat_ofNat']; omega
theorem numL_vput : ∀ (n i acc : Nat) (rest : List UInt8), i ≤ 8 → n < 128 ^ (9 - i) → (i = 0 ∨ 0 < n) → numL i acc (vput n ++ rest) = .ok (acc + n * 2 ^ (7 * i), i + (vput n).length) := fun n => by
  induction n using Nat.strongRecOn with
  | _ n ih =>
    intro i acc rest hi hn h0
    by_cases c : n < 128
    · rw [vput_small c, List.singleton_append]
      have hb := vbyte2 c
      rw [numL, if_neg (by omega), if_pos (by omega), if_neg (by omega), hb, Nat.mod_eq_of_lt c]
      simp
    · have hi8 : i ≠ 8 := by
        intro e
        subst e
        exact c (by simpa using hn)
      have hb := vbyte n
      rw [vput_big c, List.cons_append, numL, if_neg (by omega), if_neg (by omega)]
      rw [pow128 i hi] at hn
      rw [ih (n / 128) (by omega) (i + 1) _ rest (by omega) (by omega) (.inr (by omega)), hb, show (n % 128 + 128) % 128 = n % 128 by omega, pow7_step, Nat.add_assoc, vput_mix]
      simp only [List.length_cons]
      congr 2
      omega
theorem numL_pre : ∀ (n i acc m : Nat), i ≤ 8 → n < 128 ^ (9 - i) → m < (vput n).length → numL i acc ((vput n).take m) = .error 2 := fun n => by
  induction n using Nat.strongRecOn with
  | _ n ih =>
    intro i acc m hi hn hm
    cases m with
    | zero => rw [List.take_zero, numL]
    | succ m =>
      by_cases c : n < 128
      · rw [vput_small c] at hm; simp at hm
      · have hi8 : i ≠ 8 := by
          intro e
          subst e
          exact c (by simpa using hn)
        have hb := vbyte n
        rw [vput_big c] at hm ⊢
        rw [List.take_succ_cons, numL, if_neg (by omega), if_neg (by omega)]
        rw [pow128 i hi] at hn
        exact ih (n / 128) (by omega) (i + 1) _ m (by omega) (by omega) (by simpa using hm)
theorem leL_le4 {s : Nat} (h : s < 4294967296) : leL (le4 s) = s := by
  simp only [le4, leL, UInt8.toNat_ofNat']
  omega
theorem le4_len (s : Nat) : (le4 s).length = 4 := rfl
section
variable {p rest : List UInt8}
theorem unf_frame (h : p.length ≤ 65536) : unfR (frameB p ++ rest) = .ok (p, rest) := by
  have e : frameB p ++ rest = vput p.length ++ (p ++ (le4 (crcS p) ++ rest)) := by simp only [frameB, List.append_assoc]
  have hN : numL 0 0 (frameB p ++ rest) = .ok (p.length, (vput p.length).length) := by
    rw [e, numL_vput _ 0 0 _ (by decide) (by simp only [Nat.sub_zero]; omega) (.inl rfl)]; simp
  have d1 : (frameB p ++ rest).drop (vput p.length).length = p ++ (le4 (crcS p) ++ rest) := by rw [e, List.drop_left]
  have d2 : (frameB p ++ rest).drop ((vput p.length).length + p.length) = le4 (crcS p) ++ rest := by rw [← List.drop_drop, d1, List.drop_left]
  have d3 : (frameB p ++ rest).drop ((vput p.length).length + p.length + 4) = rest := by rw [← List.drop_drop, d2]; exact List.drop_left' (le4_len _)
  have hl : (frameB p ++ rest).length = (vput p.length).length + (p.length + (4 + rest.length)) := by rw [e]; simp only [List.length_append, le4_len]
  have t1 : ((frameB p ++ rest).drop (vput p.length).length).take p.length = p := by rw [d1, List.take_left]
  have t2 : ((frameB p ++ rest).drop ((vput p.length).length + p.length)).take 4 = le4 (crcS p) := by rw [d2]; exact List.take_left' (le4_len _)
  have := unfR_ok hN (by omega) (by omega) (by rw [t2, t1, leL_le4 (crcS_lt p)])
  rw [this, t1, d3]
theorem frameB_ne : frameB p ≠ [] := by
  intro e
  have := congrArg List.length e
  simp only [frameB, List.length_append, le4_len, List.length_nil] at this
  omega
theorem unf_pre {m : Nat} (h : p.length ≤ 65536) (hm : m < (frameB p).length) : ∃ e, unfR ((frameB p).take m) = .error e := by
  have e : frameB p = vput p.length ++ (p ++ le4 (crcS p)) := by simp only [frameB, List.append_assoc]
  have hl : (frameB p).length = (vput p.length).length + (p.length + 4) := by rw [e]; simp only [List.length_append, le4_len]
  by_cases c : m < (vput p.length).length
  · refine ⟨2, unfR_num ?_⟩
    rw [e, List.take_append_of_le_length (by omega)]
    exact numL_pre _ 0 0 m (by decide) (by simp only [Nat.sub_zero]; omega) c
  · refine ⟨2, ?_⟩
    have hN : numL 0 0 ((frameB p).take m) = .ok (p.length, (vput p.length).length) := by
      rw [e, List.take_append, List.take_of_length_le (by omega), numL_vput _ 0 0 _ (by decide) (by simp only [Nat.sub_zero]; omega) (.inl rfl)]; simp
    exact unfR_short hN (by omega) (by rw [List.length_take]; omega)
end
theorem frames_app : ∀ (ps : List (List UInt8)) (rest : List UInt8), (∀ p ∈ ps, p.length ≤ 65536) → framesR (ps.flatMap frameB ++ rest) = (ps ++ (framesR rest).1, (framesR rest).2)
  | [], rest, _ => by simp
  | p :: ps, rest, h => by
    have hp := h p (by simp)
    rw [List.flatMap_cons, List.append_assoc, framesR_ok (by simp [frameB_ne]) (unf_frame hp), frames_app ps rest fun q hq => h q (by simp [hq])]
    rfl
theorem frames_all (ps : List (List UInt8)) (h : ∀ p ∈ ps, p.length ≤ 65536) : framesR (ps.flatMap frameB) = (ps, []) := by
  have := frames_app ps [] h
  rw [List.append_nil, framesR_nil, List.append_nil] at this
  exact this
theorem steps_all : ∀ (ps acc : List (List UInt8)), (∀ p ∈ ps, p ≠ []) → ps.foldl stepB acc = acc ++ ps
  | [], acc, _ => by simp
  | p :: ps, acc, h => by
    rw [List.foldl_cons, stepB, if_neg (h p (by simp)), steps_all ps _ fun q hq => h q (by simp [hq])]
    simp
attribute [local irreducible] crcN crcL crcS crcB numL leL unfR nameS segsL sortZ segI segO hasP restP
attribute [local irreducible] readAll mayP frameB
/-! ### records that are handed in -/
def RecsQ (w : World) (rs : List RB) : Prop := ∀ r ∈ rs, SlOf w r.a r.b
theorem RecsQ.ext {w w' : World} {rs : List RB} (h : RecsQ w rs) (k : Ext w w') : RecsQ w' rs := fun r hr => (h r hr).ext k
theorem RecsO.q {w : World} {rs : List RB} (h : RecsO w rs) : RecsQ w rs := fun r hr => (h r hr).sl
theorem recsQ_at {rs : List RB} {j : Nat} {s : SH} (hs : (rs.map RB.h)[j]? = some s) : ∃ r, rs[j]? = some r ∧ s = r.h ∧ r ∈ rs := by
  rw [List.getElem?_map, Option.map_eq_some_iff] at hs
  obtain ⟨r, hr, rfl⟩ := hs
  exact ⟨r, hr, rfl, List.mem_of_getElem? hr⟩
theorem slOf_lt {w : World} {a : Option Addr} {xs : List UInt8} (h : SlOf w a xs) (hne : xs ≠ []) : ∀ x, a = some x → x.block < w.heap.size := by
  intro x hx
  rcases h with h | ⟨b, o, ha, hc⟩
  · exact absurd h hne
  · rw [ha] at hx; cases hx; exact hc.lt
def stepU (acc : List RB) (r : RB) : List RB := if 0 < r.b.length ∧ r.b.length ≤ 5000 ∧ acc.length < 25 then acc ++ [r] else acc
def usualR (rs : List RB) : List RB := rs.foldl stepU []
theorem usual_snoc {rs : List RB} {i : Nat} {r : RB} (h : rs[i]? = some r) : usualR (rs.take (i + 1)) = stepU (usualR (rs.take i)) r := by
  obtain ⟨hi, rfl⟩ := List.getElem?_eq_some_iff.1 h
  rw [usualR, List.take_succ_eq_append_getElem hi, List.foldl_append]; rfl
theorem usual_inv : ∀ (rs acc : List RB), (∀ r ∈ acc, 0 < r.b.length ∧ r.b.length ≤ 5000) → acc.length ≤ 25 → (∀ r ∈ rs.foldl stepU acc, 0 < r.b.length ∧ r.b.length ≤ 5000) ∧ (rs.foldl stepU acc).length ≤ 25 ∧ ∀ r ∈ rs.foldl stepU acc, r ∈ acc ++ rs
  | [], acc, h, hl => ⟨h, hl, fun r hr => by simpa using hr⟩
  | x :: rs, acc, h, hl => by
    rw [List.foldl_cons]
    have key : (∀ r ∈ stepU acc x, 0 < r.b.length ∧ r.b.length ≤ 5000) ∧ (stepU acc x).length ≤ 25 ∧ ∀ r ∈ stepU acc x, r ∈ acc ++ [x] := by
      rw [stepU]
      split
      · rename_i hc
        refine ⟨fun r hr => ?_, by simp; omega, fun r hr => hr⟩
        rcases List.mem_append.1 hr with hr | hr
        · exact h r hr
        · simp only [List.mem_singleton] at hr; subst hr; exact ⟨hc.1, hc.2.1⟩
      · exact ⟨h, hl, fun r hr => by simp [hr]⟩
    obtain ⟨h1, h2, h3⟩ := usual_inv rs (stepU acc x) key.1 key.2.1
    refine ⟨h1, h2, fun r hr => ?_⟩
    rcases List.mem_append.1 (h3 r hr) with h4 | h4
    · have := key.2.2 r h4
      simp only [List.mem_append, List.mem_cons, List.not_mem_nil, or_false] at this ⊢
      rcases this with h5 | h5
      · exact .inl h5
      · exact .inr (.inl h5)
    · simp [h4]
theorem usual_ok (rs : List RB) : (∀ r ∈ usualR rs, 0 < r.b.length ∧ r.b.length ≤ 5000) ∧ (usualR rs).length ≤ 25 ∧ ∀ r ∈ usualR rs, r ∈ rs := by
  have := usual_inv rs [] (fun r h => absurd h (by simp)) (by simp)
  simpa [usualR] using this

theorem maps_snoc {rs ts : List RB} {i : Nat} {r s : RB} (h : (rs.map RB.b).take i = (ts.map RB.b).take i) (h1 : rs[i]? = some r) (h2 : ts[i]? = some s) (e : r.b = s.b) : (rs.map RB.b).take (i + 1) = (ts.map RB.b).take (i + 1) := by
  have g1 : (rs.map RB.b)[i]? = some r.b := by rw [List.getElem?_map, h1]; rfl
  have g2 : (ts.map RB.b)[i]? = some s.b := by rw [List.getElem?_map, h2]; rfl
  rw [List.take_add_one, List.take_add_one, h, g1, g2, e]
theorem maps_ne {rs ts : List RB} {i : Nat} {r s : RB} (h1 : rs[i]? = some r) (h2 : ts[i]? = some s) (e : r.b ≠ s.b) : rs.map RB.b ≠ ts.map RB.b := fun h => by
  have g1 : (rs.map RB.b)[i]? = some r.b := by rw [List.getElem?_map, h1]; rfl
  have g2 : (ts.map RB.b)[i]? = some s.b := by rw [List.getElem?_map, h2]; rfl
  rw [h, g2] at g1
  exact e (Option.some.inj g1).symm
theorem len_ne {rs ts : List RB} (h : rs.length ≠ ts.length) : rs.map RB.b ≠ ts.map RB.b := fun e => h (by have := congrArg List.length e; simpa using this)




end Go.Proofs.YtnphndfbgdkgbaaGreatDoor
