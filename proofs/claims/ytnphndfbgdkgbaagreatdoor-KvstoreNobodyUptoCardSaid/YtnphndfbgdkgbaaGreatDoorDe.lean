/-
  Layer 2's walks, fourth part.
-/
import Derived.Test.YtnphndfbgdkgbaaGreatDoorRows
import Derived.Test.YtnphndfbgdkgbaaGreatDoorDd
namespace Go.Proofs.YtnphndfbgdkgbaaGreatDoor
attribute [local irreducible] St1 RL RA RT RT1 Run

section
variable {w w' : World} {f x : FileS} {fs gs rs l1 l2 : List FileS} {d m : Nat} {room : Int} {n : ByteArray} {pl : List PF} {pts : List PTear} {ls ks : List LeftS}
/-- what a file is while a crash goes on: rs are to come -/
def crM (pts : List PTear) (rs : List FileS) (x : FileS) : PF := if rs.any (fun r => decide (r.name = x.name)) then x.p else crashF pts x.p
theorem crM_pos (h : x.name ∈ rs.map (·.name)) : crM pts rs x = x.p := by
  obtain ⟨y, hy, e⟩ := List.mem_map.1 h
  rw [crM, if_pos (List.any_eq_true.2 ⟨y, hy, by simpa using e⟩)]
theorem crM_neg (h : ¬ x.name ∈ rs.map (·.name)) : crM pts rs x = crashF pts x.p := by
  rw [crM, if_neg]
  intro hc
  obtain ⟨y, hy, e⟩ := List.any_eq_true.1 hc
  exact h (List.mem_map.2 ⟨y, hy, by simpa using e⟩)
theorem crashF_name (ts : List PTear) (f : PF) : (crashF ts f).name = f.name := by unfold crashF; split <;> rfl
theorem crM_name (x : FileS) : (crM pts rs x).name = x.name := by
  unfold crM; split
  · rfl
  · exact crashF_name _ _
theorem crM_zero : fs.map FileS.p = fs.map (crM pts fs) := List.map_congr_left fun x hx => by rw [crM_pos (List.mem_map.2 ⟨x, hx, rfl⟩)]
theorem crM_end : fs.map (crM pts []) = (fs.map FileS.p).map (crashF pts) := by rw [List.map_map]; exact List.map_congr_left fun x _ => by simp [crM]
theorem erase_names {j : Nat} (hn : (rs.map (·.name)).Nodup) (hf : rs[j]? = some f) (nm : ByteArray) : nm ∈ (rs.eraseIdx j).map (·.name) ↔ nm ∈ rs.map (·.name) ∧ nm ≠ f.name := by
  induction rs generalizing j with
  | nil => simp at hf
  | cons y l ih =>
    simp only [List.map_cons, List.nodup_cons] at hn
    cases j with
    | zero =>
      simp only [List.getElem?_cons_zero, Option.some.injEq] at hf; subst hf
      rw [List.eraseIdx_cons_zero]
      simp only [List.map_cons, List.mem_cons]
      exact ⟨fun h => ⟨.inr h, fun e => hn.1 (e ▸ h)⟩, fun ⟨h, hne⟩ => h.elim (fun e => absurd e hne) id⟩
    | succ j =>
      simp only [List.getElem?_cons_succ] at hf
      rw [List.eraseIdx_cons_succ]
      simp only [List.map_cons, List.mem_cons, ih hn.2 hf]
      have hy : y.name ≠ f.name := fun e => hn.1 (e ▸ List.mem_map.2 ⟨f, List.mem_of_getElem? hf, rfl⟩)
      constructor
      · rintro (e | ⟨h1, h2⟩)
        · subst e; exact ⟨.inl rfl, hy⟩
        · exact ⟨.inr h1, h2⟩
      · rintro ⟨h1 | h1, h2⟩
        · exact .inl h1
        · exact .inr ⟨h1, h2⟩
theorem erase_nodup {j : Nat} (hn : (rs.map (·.name)).Nodup) : ((rs.eraseIdx j).map (·.name)).Nodup := hn.sublist ((List.eraseIdx_sublist rs j).map _)
theorem erase_mem {j : Nat} (hn : (rs.map (·.name)).Nodup) (hf : rs[j]? = some f) {y : FileS} (hy : y ∈ rs.eraseIdx j) : y ∈ rs ∧ y.name ≠ f.name :=
  ⟨List.mem_of_mem_eraseIdx hy, ((erase_names hn hf y.name).1 (List.mem_map.2 ⟨y, hy, rfl⟩)).2⟩
theorem same_name (hn : (fs.map (·.name)).Nodup) (hx : x ∈ fs) (hf : f ∈ fs) (e : x.name = f.name) : x = f := by
  obtain ⟨i, hi, rfl⟩ := List.getElem_of_mem hx
  obtain ⟨j, hj, rfl⟩ := List.getElem_of_mem hf
  have := (List.getElem_inj (h₀ := by simpa using hi) (h₁ := by simpa using hj) hn).1 (show (fs.map (·.name))[i]'(by simpa using hi) = (fs.map (·.name))[j]'(by simpa using hj) by simpa using e)
  subst this; rfl
theorem crM_step {j : Nat} (hfn : (fs.map (·.name)).Nodup) (hgn : (gs.map (·.name)).Nodup) (hn : (rs.map (·.name)).Nodup) (hsub : ∀ f ∈ rs, f ∈ fs) (hf : rs[j]? = some f) (hg : gs = l1 ++ f :: l2) (h : gs.map FileS.p = fs.map (crM pts rs)) (f' : FileS) (hp : f'.p = crashF pts f.p) :
    (l1 ++ f' :: l2).map FileS.p = fs.map (crM pts (rs.eraseIdx j)) := by
  have h1 := upd_in (u := fun _ => f'.p) hgn hg rfl
  have h2 : (l1 ++ f' :: l2).map FileS.p = updL (gs.map FileS.p) f.name (fun _ => f'.p) := by rw [h1, List.map_append, List.map_cons]
  rw [h2, h, updL, List.map_map]
  have hfm := List.mem_of_getElem? hf
  refine List.map_congr_left fun x hx => ?_
  simp only [Function.comp, crM_name]
  by_cases c : x.name = f.name
  · have := same_name hfn hx (hsub f hfm) c; subst this
    rw [if_pos rfl, crM_neg (fun h => ((erase_names hn hf _).1 h).2 rfl), hp]
  · rw [if_neg c]
    by_cases c2 : x.name ∈ rs.map (·.name)
    · rw [crM_pos c2, crM_pos ((erase_names hn hf _).2 ⟨c2, c⟩)]
    · rw [crM_neg c2, crM_neg (fun h => c2 ((erase_names hn hf _).1 h).1)]
theorem left_names (hle : ls.map LeftS.p = tornL pl pts) : ls.map (·.name) = pts.map (·.name) := by
  have := congrArg (List.map (·.1)) hle
  rw [tornL, List.map_map, List.map_map] at this
  exact this
theorem crash_no (hle : ls.map LeftS.p = tornL pl pts) (h : ∀ x ∈ ls, x.name ≠ f.name) : (⟨f.name, f.bytes.take f.synced, (f.bytes.take f.synced).length⟩ : PF) = crashF pts f.p := by
  have hno : pts.find? (fun t => decide (t.name = f.p.name)) = none := by
    rw [List.find?_eq_none]
    intro t ht
    have : t.name ∈ ls.map (·.name) := by rw [left_names hle]; exact List.mem_map.2 ⟨t, ht, rfl⟩
    obtain ⟨x, hx, e⟩ := List.mem_map.1 this
    have := h x hx
    rw [e] at this
    show ¬ (decide (t.name = f.name) = true)
    simpa using this
  rw [crashF, hno]; rfl
theorem crash_in {x : LeftS} (hfn : (fs.map (·.name)).Nodup) (hln : (ls.map (·.name)).Nodup) (hle : ls.map LeftS.p = tornL (fs.map FileS.p) pts) (hf : f ∈ fs) (hx : x ∈ ls) (e : x.name = f.name) : (⟨f.name, x.bytes, x.bytes.length⟩ : PF) = crashF pts f.p := by
  obtain ⟨i, hi, rfl⟩ := List.getElem_of_mem hx
  have hl : ls.length = pts.length := by have := congrArg List.length hle; simpa [tornL] using this
  have h1 : LeftS.p ls[i] = tornP (fs.map FileS.p) (pts[i]'(by omega)) := by
    have := congrArg (fun l => l[i]?) hle
    simp only [tornL, List.getElem?_map, List.getElem?_eq_getElem hi, List.getElem?_eq_getElem (show i < pts.length by omega), Option.map_some, Option.some.injEq] at this
    exact this
  simp only [LeftS.p, tornP, Prod.mk.injEq] at h1
  obtain ⟨h2, h3⟩ := h1
  have hnp : (pts.map (·.name)).Nodup := by rw [← left_names hle]; exact hln
  have hfind : pts.find? (fun t => decide (t.name = f.p.name)) = some (pts[i]'(by omega)) := by
    have h4 : (pts[i]'(by omega)).name = f.p.name := by rw [← h2, e]; rfl
    rw [List.find?_eq_some_iff_getElem]
    refine ⟨by simpa using h4, i, by omega, rfl, fun j hj => ?_⟩
    simp only [Bool.not_eq_true', decide_eq_false_iff_not]
    intro h5
    have := (List.getElem_inj (h₀ := by simp; omega) (h₁ := by simp; omega) hnp).1 (show (pts.map (·.name))[j]'(by simp; omega) = (pts.map (·.name))[i]'(by simp; omega) by simp only [List.getElem_map]; rw [h5, h4])
    omega
  rw [crashF, hfind]
  have h6 : lookL (fs.map FileS.p) (pts[i]'(by omega)).name = some f.p := by rw [← h2, e]; obtain ⟨k1, k2, hk⟩ := List.append_of_mem hf; exact lookP_in hfn hk rfl
  rw [h6] at h3
  simp only at h3 ⊢
  rw [← h3]; rfl
theorem tornE_ok : ∀ {ts : List PTear} {s : List ByteArray}, tornE pl ts s = 0 → ∀ t ∈ ts, ∃ f, lookL pl t.name = some f ∧ tearOk f t = true
  | [], _, _, t, ht => by simp at ht
  | t0 :: l, s, h, t, ht => by
    rw [tornE] at h
    split at h
    · split at h
      · cases h
      · rename_i f hf
        split at h
        · cases h
        · rename_i hc
          rcases List.mem_cons.1 ht with rfl | ht
          · exact ⟨f, hf, by cases hk : tearOk f t with | true => rfl | false => exact absurd (.inr hk) hc⟩
          · exact tornE_ok h t ht
    · cases h
theorem usedL_map_le {u : PF → PF} {l : List PF} (h : ∀ f ∈ l, (u f).bytes.length ≤ f.bytes.length) : usedL (l.map u) ≤ usedL l := by
  induction l with
  | nil => exact Nat.le_refl _
  | cons y l ih =>
    have h1 := h y (by simp)
    have h2 := ih fun f hf => h f (List.mem_cons_of_mem _ hf)
    rw [usedL] at h2 ⊢
    rw [usedL] at h2 ⊢
    simp only [List.map_cons, List.sum_cons]
    omega
theorem PLOk.crash (h : PLOk room pl) : PLOk room (crashL pl pts) := by
  unfold crashL
  split
  · rename_i he
    have hb : ∀ f ∈ pl, (crashF pts f).bytes.length ≤ f.bytes.length ∧ (crashF pts f).synced = (crashF pts f).bytes.length := by
      intro f hf
      have hs := h.sync f hf
      unfold crashF
      split
      · rename_i t ht
        have ht2 : t.name = f.name := by have := List.find?_some ht; simpa using this
        obtain ⟨f0, h1, h2⟩ := tornE_ok he t (List.mem_of_find?_eq_some ht)
        rw [ht2, lookL_mem h.nodup hf] at h1
        cases h1
        simp only [tearOk, Bool.and_eq_true, decide_eq_true_eq] at h2
        refine ⟨?_, rfl⟩
        simp only [tornB, List.length_append, List.length_take]
        omega
      · exact ⟨by simp only [List.length_take]; omega, rfl⟩
    refine ⟨?_, ?_, ?_, ?_, ?_, h.room⟩
    · rw [List.map_map, show ((·.name) ∘ crashF pts) = (·.name) from funext fun f => crashF_name pts f]; exact h.nodup
    · intro f hf
      obtain ⟨g, hg, rfl⟩ := List.mem_map.1 hf
      rw [crashF_name]; exact h.may g hg
    · intro f hf
      obtain ⟨g, hg, rfl⟩ := List.mem_map.1 hf
      exact Nat.le_of_eq (hb g hg).2
    · have := usedL_map_le (u := crashF pts) (l := pl) (fun f hf => (hb f hf).1); have := h.used; omega
    · rw [List.length_map]; exact h.len
  · exact h
theorem crashL_ok (he : tornE pl pts [] = 0) : crashL pl pts = pl.map (crashF pts) := by rw [crashL, if_pos he]
theorem crashL_no (he : tornE pl pts [] ≠ 0) : crashL pl pts = pl := by rw [crashL, if_neg he]
theorem ents_names (h : ents gs = ents fs) : gs.map (·.name) = fs.map (·.name) := by rw [← ents_keys, ← ents_keys, h]
theorem left_keep {j : Nat} (hn : (rs.map (·.name)).Nodup) (hf : rs[j]? = some f) (h : ∀ x ∈ ls, x.name ∈ rs.map (·.name) → x ∈ ks) : ∀ x ∈ ls, x.name ∈ (rs.eraseIdx j).map (·.name) → x ∈ ks := fun x hx h2 => h x hx ((erase_names hn hf _).1 h2).1
theorem left_keep2 {j : Nat} {x : LeftS} {k1 k2 : List LeftS} (hn : (rs.map (·.name)).Nodup) (hf : rs[j]? = some f) (h : ∀ x ∈ ls, x.name ∈ rs.map (·.name) → x ∈ ks) (hk : ks = k1 ++ x :: k2) (e : x.name = f.name) : ∀ x ∈ ls, x.name ∈ (rs.eraseIdx j).map (·.name) → x ∈ k1 ++ k2 := fun y hy h2 => by
  obtain ⟨h3, h4⟩ := (erase_names hn hf _).1 h2
  have h5 := h y hy h3
  rw [hk] at h5
  simp only [List.mem_append, List.mem_cons] at h5 ⊢
  rcases h5 with h5 | rfl | h5
  · exact .inl h5
  · exact absurd e h4
  · exact .inr h5
theorem mem_keep {j : Nat} {f' : FileS} (hn : (rs.map (·.name)).Nodup) (hf : rs[j]? = some f) (h : ∀ f ∈ rs, f ∈ gs) (hg : gs = l1 ++ f :: l2) : ∀ x ∈ rs.eraseIdx j, x ∈ l1 ++ f' :: l2 := fun y hy => by
  obtain ⟨h1, h2⟩ := erase_mem hn hf hy
  have h5 := h y h1
  rw [hg] at h5
  simp only [List.mem_append, List.mem_cons] at h5 ⊢
  rcases h5 with h5 | rfl | h5
  · exact .inl h5
  · exact absurd rfl h2
  · exact .inr (.inr h5)
end




end Go.Proofs.YtnphndfbgdkgbaaGreatDoor
