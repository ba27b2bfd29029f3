/-
  Layer 2's walks, second part.
-/
import Derived.Test.YtnphndfbgdkgbaaGreatDoorRows
import Derived.Test.YtnphndfbgdkgbaaGreatDoorDb
namespace Go.Proofs.YtnphndfbgdkgbaaGreatDoor
attribute [local irreducible] St1 RL RA RT RT1 Run

section
variable {w w' : World} {f : FileS} {fs fs' l1 l2 : List FileS} {d m : Nat} {room : Int} {n : ByteArray} {N : Nat} {pl : List PF}
theorem files_case' {nm : ByteArray} {b : Nat} {a : Option Addr} {c : Nat} {xs : List UInt8} {s : Nat} : ∀ q, filesS (l1 ++ ⟨nm, b, a, c, xs, s⟩ :: l2) q → q = b ∨ (own a q ∨ filesS (l1 ++ l2) q) := files_case
theorem files_end {nm : ByteArray} {b : Nat} {a : Option Addr} {c : Nat} {xs : List UInt8} {s : Nat} : ∀ q, filesS (fs ++ [⟨nm, b, a, c, xs, s⟩]) q → q = b ∨ (own a q ∨ filesS fs q) := fun q h => by
  have := files_case' (l2 := []) q h; rwa [List.append_nil] at this
theorem FilesAt.snoc (h : FileAt w f) (h1 : FilesAt w fs) (h2 : ∀ q, filesS fs q → ¬ fileS f q) : FilesAt w (fs ++ [f]) := FilesAt.close (l2 := []) h (by rwa [List.append_nil]) (by rwa [List.append_nil])
theorem disk_moved (h : ∀ q, filesS fs' q → q < N → diskS d m fs q) : ∀ q, diskS d m fs' q → q < N → diskS d m fs q := by
  rintro q (rfl | rfl | h') hl
  · exact .inl rfl
  · exact .inr (.inl rfl)
  · exact h q h' hl
theorem movedS_of {F F' : Nat → Prop} (h : ∀ q, F' q → q < w.heap.size → F q) : MovedS w F F' := fun q hq => by
  by_cases hl : q < w.heap.size
  · exact .inl (h q hq hl)
  · exact .inr (by omega)
theorem noP (h : ∀ f ∈ fs, f.name ≠ n) : ∀ f ∈ fs.map FileS.p, f.name ≠ n := fun x hx => by obtain ⟨f, hf, rfl⟩ := List.mem_map.1 hx; exact h f hf
theorem badP (h : PLOk room (fs.map FileS.p)) (hm : mayN n = false) : ∀ f ∈ fs, f.name ≠ n := fun f hf e => by
  have := h.may f.p (List.mem_map.2 ⟨f, hf, rfl⟩)
  rw [show f.p.name = n from e, hm] at this; cases this
theorem hasP_no (h : ∀ f ∈ fs, f.name ≠ n) : hasL (fs.map FileS.p) n = false := hasL_false (noP h)
theorem hasP_in (e : fs = l1 ++ f :: l2) (hf : f.name = n) : hasL (fs.map FileS.p) n = true := hasL_iff.2 ⟨f.p, List.mem_map.2 ⟨f, mem_mid e, rfl⟩, hf⟩
theorem lookE_bad (hm : mayN n = false) : lookE pl n = 6 := by rw [lookE, hm]; rfl
theorem lookE_no (hm : mayN n = true) (h : ∀ f ∈ fs, f.name ≠ n) : lookE (fs.map FileS.p) n = 20 := by rw [lookE, hm, hasP_no h]; rfl
theorem lookE_in (hm : mayN n = true) (e : fs = l1 ++ f :: l2) (hf : f.name = n) : lookE (fs.map FileS.p) n = 0 := by rw [lookE, hm, hasP_in e hf]; rfl
theorem lookP_in (hn : (fs.map (·.name)).Nodup) (e : fs = l1 ++ f :: l2) (hf : f.name = n) : lookL (fs.map FileS.p) n = some f.p := by
  subst hf; exact lookL_mem (f := f.p) (by rw [pl_keys]; exact hn) (List.mem_map.2 ⟨f, mem_mid e, rfl⟩)
theorem lookP_no (h : ∀ f ∈ fs, f.name ≠ n) : lookL (fs.map FileS.p) n = none := lookL_none (noP h)
theorem upd_in {u : PF → PF} (hn : (fs.map (·.name)).Nodup) (e : fs = l1 ++ f :: l2) (hf : f.name = n) : updL (fs.map FileS.p) n u = l1.map FileS.p ++ u f.p :: l2.map FileS.p := by
  subst e; subst hf
  rw [List.map_append, List.map_cons]
  exact updL_split (f := f.p) (by rw [← List.map_cons, ← List.map_append, pl_keys]; exact hn)
theorem upd_no {u : PF → PF} (h : ∀ f ∈ pl, f.name ≠ n) : updL pl n u = pl := (List.map_congr_left fun x hx => if_neg (h x hx)).trans (List.map_id'' (fun _ => rfl) _)
theorem rem_in (hn : (fs.map (·.name)).Nodup) (e : fs = l1 ++ f :: l2) (hf : f.name = n) : remL (fs.map FileS.p) n = (l1 ++ l2).map FileS.p := by
  subst e; subst hf
  rw [List.map_append, List.map_cons, List.map_append]
  exact remL_split (f := f.p) (by rw [← List.map_cons, ← List.map_append, pl_keys]; exact hn)
theorem sync_in (hn : (fs.map (·.name)).Nodup) (e : fs = l1 ++ f :: l2) (hf : f.name = n) : (l1 ++ ⟨f.name, f.blk, f.a, f.cap, f.bytes, f.bytes.length⟩ :: l2).map FileS.p = syncL (fs.map FileS.p) n := by
  rw [syncL, upd_in hn e hf, List.map_append, List.map_cons]; rfl
theorem PLOk.upd {u : PF → PF} (h : PLOk room pl) (hn : ∀ f, (u f).name = f.name) (hs : ∀ f ∈ pl, (u f).synced ≤ (u f).bytes.length) (hu : (usedL (updL pl n u) : Int) ≤ room) : PLOk room (updL pl n u) := by
  have e : (updL pl n u).map (·.name) = pl.map (·.name) := by
    rw [updL, List.map_map]; apply List.map_congr_left; intro f _; simp only [Function.comp]; split; exact hn f; rfl
  refine ⟨by rw [e]; exact h.nodup, ?_, ?_, hu, by rw [updL, List.length_map]; exact h.len, h.room⟩
  · intro x hx
    have : x.name ∈ pl.map (·.name) := by rw [← e]; exact List.mem_map.2 ⟨x, hx, rfl⟩
    obtain ⟨y, hy, e2⟩ := List.mem_map.1 this
    rw [← e2]; exact h.may y hy
  · intro x hx
    obtain ⟨y, hy, rfl⟩ := List.mem_map.1 hx
    by_cases c : y.name = n
    · rw [if_pos c]; exact hs y hy
    · rw [if_neg c]; exact h.sync y hy
theorem used_upd_same {u : PF → PF} (h : ∀ f, (u f).bytes.length = f.bytes.length) : usedL (updL pl n u) = usedL pl := by
  rw [usedL, updL, List.map_map, usedL]; congr 1; apply List.map_congr_left; intro f _; simp only [Function.comp]; split; exact h f; rfl
theorem PLOk.syn (h : PLOk room pl) : PLOk room (syncL pl n) := h.upd (fun _ => rfl) (fun _ _ => Nat.le_refl _) (by rw [used_upd_same (u := fun f => { f with synced := f.bytes.length }) (fun _ => rfl)]; exact h.used)
theorem usedL_sub {a b : List PF} (h : a.Sublist b) : usedL a ≤ usedL b := by
  induction h with
  | slnil => exact Nat.le_refl _
  | cons x _ ih => rw [usedL, usedL, List.map_cons, List.sum_cons]; rw [usedL, usedL] at ih; omega
  | cons_cons x _ ih => rw [usedL, usedL, List.map_cons, List.sum_cons, List.map_cons, List.sum_cons]; rw [usedL, usedL] at ih; omega
theorem PLOk.sub {a : List PF} (h : PLOk room pl) (s : a.Sublist pl) : PLOk room a :=
  ⟨h.nodup.sublist (s.map _), fun f hf => h.may f (s.subset hf), fun f hf => h.sync f (s.subset hf), by have := usedL_sub s; have := h.used; omega, Nat.le_trans s.length_le h.len, h.room⟩
theorem PLOk.rem (h : PLOk room pl) : PLOk room (remL pl n) := h.sub List.filter_sublist
theorem used_append (a b : List PF) : usedL (a ++ b) = usedL a + usedL b := by simp [usedL]
theorem used_upd_app {b : List UInt8} (hn : (pl.map (·.name)).Nodup) : usedL (updL pl n (fun f => { f with bytes := f.bytes ++ b })) ≤ usedL pl + b.length := by
  by_cases hh : ∃ f ∈ pl, f.name = n
  · obtain ⟨f, hf, rfl⟩ := hh
    obtain ⟨l1, l2, rfl⟩ := List.append_of_mem hf
    rw [updL_split hn]
    simp [usedL]; omega
  · rw [upd_no (fun f hf e => hh ⟨f, hf, e⟩)]; omega
theorem PLOk.app {b : List UInt8} (h : PLOk room pl) : PLOk room (appL room pl n b) := by
  unfold appL
  split
  · rename_i he
    unfold appE at he
    split at he
    · rename_i hm
      split at he
      · cases he
      · rename_i hc
        have hu := h.used
        split
        · refine h.upd (fun _ => rfl) (fun f hf => by have := h.sync f hf; simp; omega) ?_
          have := used_upd_app (n := n) (b := b) h.nodup
          omega
        · rename_i hh
          have hno : ∀ f ∈ pl, f.name ≠ n := fun f hf e => hh (hasL_iff.2 ⟨f, hf, e⟩)
          have hh' : hasL pl n = false := by simpa using hh
          refine ⟨?_, ?_, ?_, ?_, ?_, h.room⟩
          · rw [List.map_append, List.nodup_append]
            refine ⟨h.nodup, by simp, ?_⟩
            intro x hx y hy
            obtain ⟨f, hf, rfl⟩ := List.mem_map.1 hx
            simp only [List.map_cons, List.map_nil, List.mem_singleton] at hy
            subst hy; exact hno f hf
          · intro f hf
            rcases List.mem_append.1 hf with hf | hf
            · exact h.may f hf
            · simp only [List.mem_singleton] at hf; subst hf; exact hm
          · intro f hf
            rcases List.mem_append.1 hf with hf | hf
            · exact h.sync f hf
            · simp only [List.mem_singleton] at hf; subst hf; exact Nat.zero_le _
          · rw [used_append]; simp only [usedL, List.map_cons, List.map_nil, List.sum_cons, List.sum_nil] at *; omega
          · rw [List.length_append]; simp only [List.length_singleton]; simp only [hh', true_and] at hc; omega
    · cases he
  · exact h
theorem appE_bad {b : List UInt8} (hm : mayN n = false) : appE room pl n b = 6 := by rw [appE, if_neg (by simp [hm])]
theorem appE_full {b : List UInt8} (hm : mayN n = true) (h : (hasL pl n = false ∧ 64 ≤ pl.length) ∨ room - (usedL pl : Int) < (b.length : Int)) : appE room pl n b = 7 := by rw [appE, if_pos hm, if_pos h]
theorem appE_ok {b : List UInt8} (hm : mayN n = true) (h : ¬ ((hasL pl n = false ∧ 64 ≤ pl.length) ∨ room - (usedL pl : Int) < (b.length : Int))) : appE room pl n b = 0 := by rw [appE, if_pos hm, if_neg h]
theorem appL_no {b : List UInt8} (h : appE room pl n b ≠ 0) : appL room pl n b = pl := by rw [appL, if_neg h]
theorem app_in {b : List UInt8} (he : appE room (fs.map FileS.p) n b = 0) (hn : (fs.map (·.name)).Nodup) (e : fs = l1 ++ f :: l2) (hf : f.name = n) (a : Option Addr) (c : Nat) :
    (l1 ++ ⟨f.name, f.blk, a, c, f.bytes ++ b, f.synced⟩ :: l2).map FileS.p = appL room (fs.map FileS.p) n b := by
  rw [appL, if_pos he, if_pos (hasP_in e hf), upd_in hn e hf, List.map_append, List.map_cons]; rfl
theorem app_new {b : List UInt8} (he : appE room (fs.map FileS.p) n b = 0) (h : ∀ f ∈ fs, f.name ≠ n) (x : Nat) (a : Option Addr) (c : Nat) :
    (fs ++ [(⟨n, x, a, c, b, 0⟩ : FileS)]).map FileS.p = appL room (fs.map FileS.p) n b := by
  rw [appL, if_pos he, hasP_no h, List.map_append]; rfl
theorem ents_snoc (nm : ByteArray) (x : Nat) (a a' : Option Addr) (c c' : Nat) (b b' : List UInt8) (s s' : Nat) : ents (fs ++ [(⟨nm, x, a, c, b, s⟩ : FileS)]) = ents (fs ++ [(⟨nm, x, a', c', b', s'⟩ : FileS)]) := by simp [ents, ent]
theorem ents_at (nm : ByteArray) (x : Nat) (a a' : Option Addr) (c c' : Nat) (b b' : List UInt8) (s s' : Nat) : ents (l1 ++ (⟨nm, x, a, c, b, s⟩ : FileS) :: l2) = ents (l1 ++ (⟨nm, x, a', c', b', s'⟩ : FileS) :: l2) := by simp [ents, ent]
theorem ents_fs (e : fs = l1 ++ f :: l2) (a : Option Addr) (c : Nat) (b : List UInt8) (s : Nat) : ents fs = ents (l1 ++ ⟨f.name, f.blk, a, c, b, s⟩ :: l2) := by subst e; simp [ents, ent]
theorem PLOk.nil (h : PLOk room pl) : PLOk room [] := h.sub (List.nil_sublist _)
theorem PLOk.empty (h : 0 ≤ room ∧ room ≤ 16777216) : PLOk room (([] : List FileS).map FileS.p) := ⟨by simp, fun _ h => absurd h (by simp), fun _ h => absurd h (by simp), by simp [usedL]; exact h.1, by simp, h⟩
theorem ents_del' (hn : (fs.map (·.name)).Nodup) (e : fs = l1 ++ f :: l2) (hf : f.name = n) : mdel (ents fs) n = ents (l1 ++ l2) := by subst e; subst hf; exact ents_del hn
theorem sub_nodup (hn : (fs.map (·.name)).Nodup) (e : fs = l1 ++ f :: l2) : ((l1 ++ l2).map (·.name)).Nodup := by
  subst e
  exact hn.sublist (((List.sublist_cons_self f l2).append_left l1).map _)
theorem renE_bad {to : ByteArray} (hm : mayN n = false) : renE pl n to = 6 := by rw [renE, if_neg (by simp [hm])]
theorem renE_bad2 {to : ByteArray} (hm : mayN n = true) (h2 : mayN to = false) : renE pl n to = 6 := by rw [renE, if_pos hm, if_neg (by simp [h2])]
theorem renE_no {to : ByteArray} (hm : mayN n = true) (h2 : mayN to = true) (h : ∀ f ∈ fs, f.name ≠ n) : renE (fs.map FileS.p) n to = 20 := by rw [renE, if_pos hm, if_pos h2, hasP_no h]; rfl
theorem renE_in {to : ByteArray} (hm : mayN n = true) (h2 : mayN to = true) (e : fs = l1 ++ f :: l2) (hf : f.name = n) : renE (fs.map FileS.p) n to = 0 := by rw [renE, if_pos hm, if_pos h2, hasP_in e hf]; rfl
theorem renL_no {to : ByteArray} (h : renE pl n to ≠ 0) : renL pl n to = pl := by rw [renL, if_neg h]
/-- a file put in the place of that of its name, or behind all -/
def renFs : List FileS → FileS → List FileS
  | [], g => [g]
  | x :: l, g => if x.name = g.name then g :: l else x :: renFs l g
theorem renFs_mem {l : List FileS} {g x : FileS} (h : x ∈ renFs l g) : x = g ∨ x ∈ l := by
  induction l with
  | nil => simp [renFs] at h; exact .inl h
  | cons y l ih =>
    rw [renFs] at h
    split at h
    · rcases List.mem_cons.1 h with h | h
      · exact .inl h
      · exact .inr (List.mem_cons_of_mem _ h)
    · rcases List.mem_cons.1 h with h | h
      · exact .inr (by rw [h]; simp)
      · rcases ih h with h | h
        · exact .inl h
        · exact .inr (List.mem_cons_of_mem _ h)
theorem renFs_at {nm : ByteArray} (h : FileAt w f ∧ FilesAt w (l1 ++ l2) ∧ ∀ q, filesS (l1 ++ l2) q → ¬ fileS f q) : FilesAt w (renFs (l1 ++ l2) ⟨nm, f.blk, f.a, f.cap, f.bytes, f.synced⟩) := by
  obtain ⟨h1, h2, h3⟩ := h
  generalize l1 ++ l2 = l at *
  refine ⟨fun x hx => (renFs_mem hx).elim (fun e => by rw [e]; exact ⟨h1.blk, h1.own, h1.apart⟩) (fun h => h2.all x h), ?_⟩
  have key : ∀ (l : List FileS), l.Pairwise (fun f g => ∀ q, fileS f q → ¬ fileS g q) → (∀ x ∈ l, ∀ q, fileS x q → ¬ fileS f q) → (renFs l ⟨nm, f.blk, f.a, f.cap, f.bytes, f.synced⟩).Pairwise (fun f g => ∀ q, fileS f q → ¬ fileS g q) := by
    intro l
    induction l with
    | nil => intro _ _; simp [renFs]
    | cons y l ih =>
      intro hp hx
      obtain ⟨hp1, hp2⟩ := List.pairwise_cons.1 hp
      rw [renFs]
      split
      · exact List.pairwise_cons.2 ⟨fun z hz q hq hz2 => hx z (List.mem_cons_of_mem _ hz) q hz2 hq, hp2⟩
      · refine List.pairwise_cons.2 ⟨fun z hz q hq hz2 => ?_, ih hp2 (fun x h => hx x (List.mem_cons_of_mem _ h))⟩
        rcases renFs_mem hz with rfl | hz
        · exact hx y (by simp) q hq hz2
        · exact hp1 z hz q hq hz2
  exact key l h2.apart (fun x hx q hq => h3 q ⟨x, hx, hq⟩)
theorem renFs_sub {nm : ByteArray} (e : fs = l1 ++ f :: l2) : ∀ q, filesS (renFs (l1 ++ l2) ⟨nm, f.blk, f.a, f.cap, f.bytes, f.synced⟩) q → filesS fs q := fun q ⟨x, hx, hq⟩ => by
  subst e
  rcases renFs_mem hx with rfl | hx
  · exact filesS_mid.2 (.inl hq)
  · exact filesS_mid.2 (.inr ⟨x, hx, hq⟩)
theorem renFs_split {g : FileS} : ∀ {l : List FileS}, (l.map (·.name)).Nodup → (∀ x ∈ l, x.name ≠ g.name) ∧ renFs l g = l ++ [g] ∨ ∃ a x b, l = a ++ x :: b ∧ x.name = g.name ∧ renFs l g = a ++ g :: b
  | [], _ => .inl ⟨fun _ h => by simp at h, rfl⟩
  | y :: l, hn => by
    simp only [List.map_cons, List.nodup_cons] at hn
    rw [renFs]
    by_cases c : y.name = g.name
    · rw [if_pos c]; exact .inr ⟨[], y, l, rfl, c, rfl⟩
    · rw [if_neg c]
      rcases renFs_split (g := g) hn.2 with ⟨h1, h2⟩ | ⟨a, x, b, h1, h2, h3⟩
      · refine .inl ⟨fun x hx => ?_, by rw [h2]; rfl⟩
        rcases List.mem_cons.1 hx with rfl | hx
        · exact c
        · exact h1 x hx
      · exact .inr ⟨y :: a, x, b, by rw [h1]; rfl, h2, by rw [h3]; rfl⟩
theorem renFs_put {g : FileS} {l : List FileS} (hn : (l.map (·.name)).Nodup) : mput (ents l) g.name (.pointer (some ⟨g.blk, 0, none⟩)) = ents (renFs l g) := by
  rcases renFs_split (g := g) hn with ⟨h1, h2⟩ | ⟨a, x, b, h1, h2, h3⟩
  · rw [h2]; exact ents_put_new h1 g.blk g.a g.cap g.bytes g.synced
  · rw [h3]; subst h1; rw [← h2]; exact ents_put_old hn g.blk g h2.symm rfl
theorem ren_in {to : ByteArray} (hok : PLOk room (fs.map FileS.p)) (hn : (fs.map (·.name)).Nodup) (e : fs = l1 ++ f :: l2) (hf : f.name = n) (hm : mayN n = true) (h2 : mayN to = true) :
    ((renFs (l1 ++ l2) ⟨to, f.blk, f.a, f.cap, f.bytes, f.synced⟩).map FileS.p).Perm (renL (fs.map FileS.p) n to) ∧ PLOk room ((renFs (l1 ++ l2) ⟨to, f.blk, f.a, f.cap, f.bytes, f.synced⟩).map FileS.p) := by
  have hp : ((renFs (l1 ++ l2) ⟨to, f.blk, f.a, f.cap, f.bytes, f.synced⟩).map FileS.p).Perm (remL ((l1 ++ l2).map FileS.p) to ++ [⟨to, f.bytes, f.synced⟩]) := by
    have hs := sub_nodup hn e
    generalize l1 ++ l2 = l at *
    rcases renFs_split (g := ⟨to, f.blk, f.a, f.cap, f.bytes, f.synced⟩) hs with ⟨h1, h2⟩ | ⟨a, x, b, h1, h2, h3⟩
    · rw [h2, remL_none (noP h1), List.map_append]; exact List.Perm.refl _
    · subst h1
      rw [h3, rem_in hs rfl h2, List.map_append, List.map_cons, List.map_append]
      exact (List.perm_middle).trans (List.perm_append_singleton _ _).symm
  have he : renL (fs.map FileS.p) n to = remL ((l1 ++ l2).map FileS.p) to ++ [⟨to, f.bytes, f.synced⟩] := by
    rw [renL, if_pos (renE_in hm h2 e hf), lookP_in hn e hf, rem_in hn e hf]; rfl
  refine ⟨by rw [he]; exact hp, PLOk.perm ?_ hp.symm⟩
  have hr : PLOk room (remL ((l1 ++ l2).map FileS.p) to) := PLOk.rem (hok.sub (by subst e; exact (((List.sublist_cons_self f l2).append_left l1).map _)))
  have hu : usedL (remL ((l1 ++ l2).map FileS.p) to) + f.bytes.length ≤ usedL (fs.map FileS.p) ∧ (remL ((l1 ++ l2).map FileS.p) to).length + 1 ≤ fs.length := by
    subst e
    have h1 : usedL (remL ((l1 ++ l2).map FileS.p) to) ≤ usedL ((l1 ++ l2).map FileS.p) := usedL_sub List.filter_sublist
    have h2 : usedL ((l1 ++ f :: l2).map FileS.p) = f.bytes.length + usedL ((l1 ++ l2).map FileS.p) := by simp [usedL, FileS.p]; omega
    have h3 : (remL ((l1 ++ l2).map FileS.p) to).length ≤ ((l1 ++ l2).map FileS.p).length := List.length_filter_le _ _
    simp only [List.length_map, List.length_append, List.length_cons] at h3 ⊢
    omega
  have hus := hok.used
  have hle := hok.len
  rw [List.length_map] at hle
  have hfl := PLOk.lens hok f (mem_mid e)
  refine ⟨?_, ?_, ?_, ?_, ?_, hok.room⟩
  · rw [List.map_append, List.nodup_append]
    refine ⟨hr.nodup, by simp, ?_⟩
    intro x hx y hy
    obtain ⟨z, hz, rfl⟩ := List.mem_map.1 hx
    simp only [List.map_cons, List.map_nil, List.mem_singleton] at hy
    subst hy
    have := (List.mem_filter.1 hz).2
    simpa using this
  · intro x hx
    rcases List.mem_append.1 hx with hx | hx
    · exact hr.may x hx
    · simp only [List.mem_singleton] at hx; subst hx; exact h2
  · intro x hx
    rcases List.mem_append.1 hx with hx | hx
    · exact hr.sync x hx
    · simp only [List.mem_singleton] at hx; subst hx; exact hfl.1
  · rw [used_append]; simp only [usedL, List.map_cons, List.map_nil, List.sum_cons, List.sum_nil] at *; omega
  · rw [List.length_append]; simp only [List.length_singleton]; omega
end

theorem ty3 : Ty Tryz.prog 3 1 8 (.int .i64 (0)) false := ty_of (by kernel_rfl) (by kernel_rfl)
theorem en117 : Enters Tryz.prog 117 := enters_of Tryz.func117 rfl (by kernel_rfl)
theorem en120 : Enters Tryz.prog 120 := enters_of Tryz.func120 rfl (by kernel_rfl)
theorem en238 : Enters Tryz.prog 238 := enters_of Tryz.func238 rfl (by kernel_rfl)

set_option maxRecDepth 100000 in
set_option maxHeartbeats 4000000 in
theorem clone_byte (a : Option Addr) (xs : List UInt8) (c : Nat) (w : World) (hs : SlOf w a xs) (hl : xs.length ≤ 4294967295) :
    Calls Tryz.prog 238 #[.slice (a) (xs.length) (c)] w (Ret (fun v w' => ∃ a' c', v = .slice a' xs.length c' ∧ OwnSl w' 5 a' c' xs ∧ (∀ b, own a' b → w.heap.size ≤ b) ∧ Ext w w')) := by
  refine calls_run (n := 8) Tryz.func238 rfl rfl rfl ?_
  refine Run.seq ?_
  refine Run.region ?_
  refine RL.val (x_assignSl rfl) ?_
  refine RL.nil ?_
  refine Run.seq ?_
  refine Run.seq ?_
  refine Run.region ?_
  refine RL.val (x_moveSl rfl) ?_
  refine RL.val (x_slNil Tryz.underlying74 rfl rfl) ?_
  refine RL.nil ?_
  refine Run.cond rfl (fun hc4 => ?_) (fun hc4 => ?_)
  · skip
    refine Run.seq ?_
    refine Run.region ?_
    refine RL.val (x_assignSl rfl) ?_
    refine RL.nil ?_
    refine Run.ret1 (v := .slice (none) (0) (0)) Tryz.func238 rfl rfl ?_
    have hx := hs.nil_of hc4; subst hx; exact ⟨_, rfl, none, 0, rfl, OwnSl.nil _ _, fun b h => absurd h (own_none b), (Keeps.refl _ w)⟩
  · skip
    refine Run.skip ?_
    refine Run.seq ?_
    refine Run.region ?_
    refine RL.st rfl <| St1.buildSlice ([] : List UInt8) Tryz.underlying74 ty5 rfl rfl (by first | decide | (simp [Enc.size])) ?_
    intro b_1 w_2 hl_5 ho_4 K_3
    have pg_6 : ∀ q_, own (some ⟨b_1, 0, none⟩) q_ → w.heap.size ≤ q_ := fun q_ h => Nat.le_trans (Nat.le_refl _) ((ge_new hl_5) q_ h)
    clear hl_5
    have K0 := (K_3 : Ext w _)
    refine RL.val (x_moveSl rfl) ?_
    refine RL.st rfl <| St1.append (xs := ([] : List UInt8)) (ys := xs) Tryz.underlying74 ty5 rfl rfl rfl ho_4 (hs.ext K0) (by first | omega | (simp only [lr]; omega)) (by decide) ?_
    intro a_7 c_8 w_9 ho_10 K_11 hm_12 hrm_13
    have pg_14 : ∀ q_, own a_7 q_ → w.heap.size ≤ q_ := hm_12.ge pg_6 K0.size
    replace K0 := K0.new K_11 pg_6
    clear hm_12
    clear hrm_13
    refine RL.val (x_assignSl rfl) ?_
    refine RL.nil ?_
    refine Run.ret1 (v := .slice (a_7) ((([] : List UInt8) ++ xs).length) (c_8)) Tryz.func238 rfl rfl ?_
    exact ⟨_, rfl, a_7, c_8, by rw [List.nil_append], by simpa using ho_10, pg_14, K0⟩

set_option maxRecDepth 100000 in
set_option maxHeartbeats 4000000 in
theorem read_ (d m : Nat) (room : Int) (fs : List FileS) (name : ByteArray) (w : World) (hD : DiskO w d m room fs) (hs : name.size ≤ 4294967295) :
    Calls Tryz.prog 184 #[.pointer (some ⟨d, 0, none⟩), .string (name)] w (Ret (fun v w' => ∃ a' c' bs, v = .tuple #[.slice a' bs.length c', .int .i64 (lookE (fs.map FileS.p) name)] ∧ OwnSl w' 5 a' c' bs ∧ (∀ b, own a' b → w.heap.size ≤ b) ∧ bs = ((lookL (fs.map FileS.p) name).map (·.bytes)).getD [] ∧ Ext w w')) := by
  obtain ⟨hB, hM, hF, hmd, hfd, hfm, hok⟩ := hD
  have hnd := DiskO.names hok
  have hlens := PLOk.lens hok
  have hroom := hok.room
  have hused := hok.used
  have hcnt := hok.len
  rw [List.length_map] at hcnt
  refine calls_run (n := 22) Tryz.func184 rfl rfl rfl ?_
  refine Run.seq ?_
  refine Run.region ?_
  refine RL.val (x_assignSl rfl) ?_
  refine RL.val (x_assignI rfl) ?_
  refine RL.nil ?_
  refine Run.seq ?_
  refine Run.region ?_
  refine RL.val (x_moveP rfl) ?_
  refine RL.val (x_moveS rfl) ?_
  refine RL.st rfl <| St1.call (vals := [.pointer (some ⟨d, 0, none⟩), .string (name)]) en117 rfl (look_ d m room fs name _ (⟨hB, hM, hF, hmd, hfd, hfm, hok⟩ : DiskO _ d m room fs) (by omega)) ?_
  rintro _ w_1 ⟨K_2, (⟨hmay, rfl⟩ | ⟨hmay, hno, rfl⟩ | ⟨hmay, l1, f, l2, hfs, hfn, rfl⟩)⟩
  · replace hB := hB.ext K_2
    replace hM := hM.ext K_2
    replace hF := hF.ext K_2
    have K0 := (K_2 : Ext w _)
    refine RL.val (x_moveT rfl) ?_
    refine RL.val (x_extract rfl rfl) ?_
    refine RL.val (x_extract rfl rfl) ?_
    refine RL.val (x_assignP rfl) ?_
    refine RL.val (x_assignI rfl) ?_
    refine RL.nil ?_
    refine Run.seq ?_
    refine Run.seq ?_
    refine Run.region ?_
    refine RL.val (x_moveI rfl) ?_
    refine RL.val (litT (x_neI rfl rfl) (by decide)) ?_
    refine RL.nil ?_
    refine Run.condT rfl ?_
    refine Run.seq ?_
    refine Run.region ?_
    refine RL.val (x_moveI rfl) ?_
    refine RL.val (x_assignSl rfl) ?_
    refine RL.val (x_assignI rfl) ?_
    refine RL.nil ?_
    refine Run.ret2 (v := .slice (none) (0) (0)) (x := .int .i64 (6)) Tryz.func184 rfl rfl rfl ?_
    exact ⟨_, rfl, none, 0, [], by rw [lookE_bad hmay]; rfl, OwnSl.nil _ _, fun b h => absurd h (own_none b), by rw [lookP_no (badP hok hmay)]; rfl, K0⟩
  · replace hB := hB.ext K_2
    replace hM := hM.ext K_2
    replace hF := hF.ext K_2
    have K0 := (K_2 : Ext w _)
    refine RL.val (x_moveT rfl) ?_
    refine RL.val (x_extract rfl rfl) ?_
    refine RL.val (x_extract rfl rfl) ?_
    refine RL.val (x_assignP rfl) ?_
    refine RL.val (x_assignI rfl) ?_
    refine RL.nil ?_
    refine Run.seq ?_
    refine Run.seq ?_
    refine Run.region ?_
    refine RL.val (x_moveI rfl) ?_
    refine RL.val (litT (x_neI rfl rfl) (by decide)) ?_
    refine RL.nil ?_
    refine Run.condT rfl ?_
    refine Run.seq ?_
    refine Run.region ?_
    refine RL.val (x_moveI rfl) ?_
    refine RL.val (x_assignSl rfl) ?_
    refine RL.val (x_assignI rfl) ?_
    refine RL.nil ?_
    refine Run.ret2 (v := .slice (none) (0) (0)) (x := .int .i64 (20)) Tryz.func184 rfl rfl rfl ?_
    exact ⟨_, rfl, none, 0, [], by rw [lookE_no hmay hno]; rfl, OwnSl.nil _ _, fun b h => absurd h (own_none b), by rw [lookP_no hno]; rfl, K0⟩
  · replace hB := hB.ext K_2
    replace hM := hM.ext K_2
    replace hF := hF.ext K_2
    have K0 := (K_2 : Ext w _)
    have hfl := hlens f (mem_mid hfs)
    refine RL.val (x_moveT rfl) ?_
    refine RL.val (x_extract rfl rfl) ?_
    refine RL.val (x_extract rfl rfl) ?_
    refine RL.val (x_assignP rfl) ?_
    refine RL.val (x_assignI rfl) ?_
    refine RL.nil ?_
    refine Run.seq ?_
    refine Run.seq ?_
    refine Run.region ?_
    refine RL.val (x_moveI rfl) ?_
    refine RL.val (litF (x_neI rfl rfl) (by decide)) ?_
    refine RL.nil ?_
    refine Run.condF rfl ?_
    refine Run.skip ?_
    refine Run.seq ?_
    have hfx := hF.all f (mem_mid hfs)
    have hb := hfx.blk
    have hsl := hfx.own.sl
    refine Run.region ?_
    refine RL.val (x_moveP rfl) ?_
    refine RL.val (x_nilCheck rfl) ?_
    refine RL.val (x_fld (o' := 0) Tryz.underlying184 rfl ty74 rfl rfl rfl) ?_
    refine RL.val (x_ld (v := .slice (f.a) (f.bytes.length) (f.cap)) ty74 rfl rfl (hb.cl.field (i := 0) rfl)) ?_
    refine RL.st rfl <| St1.call (vals := [.slice (f.a) (f.bytes.length) (f.cap)]) en238 rfl (clone_byte _ _ _ _ hsl (by omega)) ?_
    rintro _ w_5 ⟨a_3, c_4, rfl, ho_6, hg_7, K_8⟩
    have pr_9 : ¬ own a_3 d := notNew hg_7 hB.lt
    have pr_10 : ∀ q_, own a_3 q_ → ¬ one m q_ := apartNew hg_7 hM.own_lt
    have pr_11 : ∀ q_, own a_3 q_ → ¬ filesS fs q_ := apartNew hg_7 hF.own_lt
    have pr_12 : ¬ own a_3 f.blk := notNew hg_7 hb.lt
    have pg_13 : ∀ q_, own a_3 q_ → w.heap.size ≤ q_ := fun q_ h => Nat.le_trans K0.size (hg_7 q_ h)
    clear hg_7
    replace hB := hB.ext K_8
    replace hM := hM.ext K_8
    replace hF := hF.ext K_8
    replace hb := hb.ext K_8
    replace hsl := hsl.ext K_8
    replace K0 := K0.ext K_8
    refine RL.val (x_assignSl rfl) ?_
    refine RL.val (x_assignI rfl) ?_
    refine RL.nil ?_
    refine Run.ret2 (v := .slice (a_3) (f.bytes.length) (c_4)) (x := .int .i64 (0)) Tryz.func184 rfl rfl rfl ?_
    exact ⟨_, rfl, a_3, c_4, f.bytes, by rw [lookE_in hmay hfs hfn], ho_6, pg_13, by rw [lookP_in hnd hfs hfn]; rfl, K0⟩

set_option maxRecDepth 100000 in
set_option maxHeartbeats 4000000 in
theorem size_ (d m : Nat) (room : Int) (fs : List FileS) (name : ByteArray) (w : World) (hD : DiskO w d m room fs) (hs : name.size ≤ 4294967295) :
    Calls Tryz.prog 65 #[.pointer (some ⟨d, 0, none⟩), .string (name)] w (Ret (fun v w' => v = .tuple #[.int .i64 ((((lookL (fs.map FileS.p) name).map (·.bytes.length)).getD 0 : Nat) : Int), .int .i64 ((((lookL (fs.map FileS.p) name).map (·.synced)).getD 0 : Nat) : Int), .int .i64 (lookE (fs.map FileS.p) name)] ∧ Ext w w')) := by
  obtain ⟨hB, hM, hF, hmd, hfd, hfm, hok⟩ := hD
  have hnd := DiskO.names hok
  have hlens := PLOk.lens hok
  have hroom := hok.room
  have hused := hok.used
  have hcnt := hok.len
  rw [List.length_map] at hcnt
  refine calls_run (n := 26) Tryz.func65 rfl rfl rfl ?_
  refine Run.seq ?_
  refine Run.region ?_
  refine RL.val (x_assignI rfl) ?_
  refine RL.val (x_assignI rfl) ?_
  refine RL.val (x_assignI rfl) ?_
  refine RL.nil ?_
  refine Run.seq ?_
  refine Run.region ?_
  refine RL.val (x_moveP rfl) ?_
  refine RL.val (x_moveS rfl) ?_
  refine RL.st rfl <| St1.call (vals := [.pointer (some ⟨d, 0, none⟩), .string (name)]) en117 rfl (look_ d m room fs name _ (⟨hB, hM, hF, hmd, hfd, hfm, hok⟩ : DiskO _ d m room fs) (by omega)) ?_
  rintro _ w_1 ⟨K_2, (⟨hmay, rfl⟩ | ⟨hmay, hno, rfl⟩ | ⟨hmay, l1, f, l2, hfs, hfn, rfl⟩)⟩
  · replace hB := hB.ext K_2
    replace hM := hM.ext K_2
    replace hF := hF.ext K_2
    have K0 := (K_2 : Ext w _)
    refine RL.val (x_moveT rfl) ?_
    refine RL.val (x_extract rfl rfl) ?_
    refine RL.val (x_extract rfl rfl) ?_
    refine RL.val (x_assignP rfl) ?_
    refine RL.val (x_assignI rfl) ?_
    refine RL.nil ?_
    refine Run.seq ?_
    refine Run.seq ?_
    refine Run.region ?_
    refine RL.val (x_moveI rfl) ?_
    refine RL.val (litT (x_neI rfl rfl) (by decide)) ?_
    refine RL.nil ?_
    refine Run.condT rfl ?_
    refine Run.seq ?_
    refine Run.region ?_
    refine RL.val (x_moveI rfl) ?_
    refine RL.val (x_assignI rfl) ?_
    refine RL.val (x_assignI rfl) ?_
    refine RL.val (x_assignI rfl) ?_
    refine RL.nil ?_
    refine Run.ret3 (v := .int .i64 (0)) (x := .int .i64 (0)) (y := .int .i64 (6)) Tryz.func65 rfl rfl rfl rfl ?_
    exact ⟨_, rfl, by rw [lookE_bad hmay, lookP_no (badP hok hmay)]; rfl, K0⟩
  · replace hB := hB.ext K_2
    replace hM := hM.ext K_2
    replace hF := hF.ext K_2
    have K0 := (K_2 : Ext w _)
    refine RL.val (x_moveT rfl) ?_
    refine RL.val (x_extract rfl rfl) ?_
    refine RL.val (x_extract rfl rfl) ?_
    refine RL.val (x_assignP rfl) ?_
    refine RL.val (x_assignI rfl) ?_
    refine RL.nil ?_
    refine Run.seq ?_
    refine Run.seq ?_
    refine Run.region ?_
    refine RL.val (x_moveI rfl) ?_
    refine RL.val (litT (x_neI rfl rfl) (by decide)) ?_
    refine RL.nil ?_
    refine Run.condT rfl ?_
    refine Run.seq ?_
    refine Run.region ?_
    refine RL.val (x_moveI rfl) ?_
    refine RL.val (x_assignI rfl) ?_
    refine RL.val (x_assignI rfl) ?_
    refine RL.val (x_assignI rfl) ?_
    refine RL.nil ?_
    refine Run.ret3 (v := .int .i64 (0)) (x := .int .i64 (0)) (y := .int .i64 (20)) Tryz.func65 rfl rfl rfl rfl ?_
    exact ⟨_, rfl, by rw [lookE_no hmay hno, lookP_no hno]; rfl, K0⟩
  · replace hB := hB.ext K_2
    replace hM := hM.ext K_2
    replace hF := hF.ext K_2
    have K0 := (K_2 : Ext w _)
    have hfl := hlens f (mem_mid hfs)
    refine RL.val (x_moveT rfl) ?_
    refine RL.val (x_extract rfl rfl) ?_
    refine RL.val (x_extract rfl rfl) ?_
    refine RL.val (x_assignP rfl) ?_
    refine RL.val (x_assignI rfl) ?_
    refine RL.nil ?_
    refine Run.seq ?_
    refine Run.seq ?_
    refine Run.region ?_
    refine RL.val (x_moveI rfl) ?_
    refine RL.val (litF (x_neI rfl rfl) (by decide)) ?_
    refine RL.nil ?_
    refine Run.condF rfl ?_
    refine Run.skip ?_
    refine Run.seq ?_
    have hfx := hF.all f (mem_mid hfs)
    have hb := hfx.blk
    have hsl := hfx.own.sl
    refine Run.draw' (m := 12) (by kernel_rfl) rfl ?_
    intro w_3 K_4
    replace hB := hB.ext K_4
    replace hM := hM.ext K_4
    replace hF := hF.ext K_4
    replace hb := hb.ext K_4
    replace hsl := hsl.ext K_4
    replace K0 := K0.ext K_4
    refine RA.take (v := .pointer (some ⟨f.blk, 0, none⟩)) 0 rfl (by kernel_rfl) rfl (by rintro _ rfl; exact (x_moveP rfl)) ?_
    refine RA.take (v := .pointer (some ⟨f.blk, 0, none⟩)) 1 rfl (by kernel_rfl) rfl (by rintro _ rfl; exact (x_nilCheck rfl)) ?_
    refine RA.take (v := .pointer (some ⟨f.blk, 0, none⟩)) 2 rfl (by kernel_rfl) rfl (by rintro _ rfl; exact (x_fld (o' := 0) Tryz.underlying184 rfl ty74 rfl rfl rfl)) ?_
    refine RA.take (v := .slice (f.a) (f.bytes.length) (f.cap)) 3 rfl (by kernel_rfl) rfl (by rintro _ rfl; exact (x_ld (v := .slice (f.a) (f.bytes.length) (f.cap)) ty74 rfl rfl (hb.cl.field (i := 0) rfl))) ?_
    refine RA.take (v := .int .i64 (((f.bytes.length : Nat) : Int))) 4 rfl (by kernel_rfl) rfl (by rintro _ rfl; exact (x_lenSl Tryz.underlying74 rfl)) ?_
    refine RA.take (v := .pointer (some ⟨f.blk, 0, none⟩)) 5 rfl (by kernel_rfl) rfl (by rintro _ rfl; exact (x_moveP rfl)) ?_
    refine RA.take (v := .pointer (some ⟨f.blk, 0, none⟩)) 6 rfl (by kernel_rfl) rfl (by rintro _ rfl; exact (x_nilCheck rfl)) ?_
    refine RA.take (v := .pointer (some ⟨f.blk, 1, none⟩)) 7 rfl (by kernel_rfl) rfl (by rintro _ rfl; exact (x_fld (o' := 1) Tryz.underlying184 rfl ty3 rfl rfl rfl)) ?_
    refine RA.take (v := .int .i64 (((f.synced : Nat) : Int))) 8 rfl (by kernel_rfl) rfl (by rintro _ rfl; exact (x_ld (v := .int .i64 (((f.synced : Nat) : Int))) ty3 rfl rfl (hb.cl.field (i := 1) rfl))) ?_
    refine RA.take (v := .int .i64 (((f.bytes.length : Nat) : Int))) 9 rfl (by kernel_rfl) rfl (by rintro _ rfl; exact (x_assignI rfl)) ?_
    refine RA.take (v := .int .i64 (((f.synced : Nat) : Int))) 10 rfl (by kernel_rfl) rfl (by rintro _ rfl; exact (x_assignI rfl)) ?_
    refine RA.take (v := .int .i64 (0)) 11 rfl (by kernel_rfl) rfl (by rintro _ rfl; exact (x_assignI rfl)) ?_
    refine RA.done (by kernel_rfl) ?_
    refine Run.ret3 (v := .int .i64 (((f.bytes.length : Nat) : Int))) (x := .int .i64 (((f.synced : Nat) : Int))) (y := .int .i64 (0)) Tryz.func65 rfl rfl rfl rfl ?_
    exact ⟨_, rfl, by rw [lookE_in hmay hfs hfn, lookP_in hnd hfs hfn]; rfl, K0⟩

set_option maxRecDepth 100000 in
set_option maxHeartbeats 4000000 in
theorem sync_ (d m : Nat) (room : Int) (fs : List FileS) (name : ByteArray) (w : World) (hD : DiskO w d m room fs) (hs : name.size ≤ 4294967295) :
    Calls Tryz.prog 67 #[.pointer (some ⟨d, 0, none⟩), .string (name)] w (Ret (fun v w' => ∃ fs', v = .int .i64 (lookE (fs.map FileS.p) name) ∧ DiskO w' d m room fs' ∧ fs'.map FileS.p = syncL (fs.map FileS.p) name ∧ (∀ q, diskS d m fs' q → q < w.heap.size → diskS d m fs q) ∧ Keeps (diskS d m fs) w w')) := by
  obtain ⟨hB, hM, hF, hmd, hfd, hfm, hok⟩ := hD
  have hnd := DiskO.names hok
  have hlens := PLOk.lens hok
  have hroom := hok.room
  have hused := hok.used
  have hcnt := hok.len
  rw [List.length_map] at hcnt
  refine calls_run (n := 24) Tryz.func67 rfl rfl rfl ?_
  refine Run.seq ?_
  refine Run.region ?_
  refine RL.val (x_assignI rfl) ?_
  refine RL.nil ?_
  refine Run.seq ?_
  refine Run.region ?_
  refine RL.val (x_moveP rfl) ?_
  refine RL.val (x_moveS rfl) ?_
  refine RL.st rfl <| St1.call (vals := [.pointer (some ⟨d, 0, none⟩), .string (name)]) en117 rfl (look_ d m room fs name _ (⟨hB, hM, hF, hmd, hfd, hfm, hok⟩ : DiskO _ d m room fs) (by omega)) ?_
  rintro _ w_1 ⟨K_2, (⟨hmay, rfl⟩ | ⟨hmay, hno, rfl⟩ | ⟨hmay, l1, f, l2, hfs, hfn, rfl⟩)⟩
  · replace hB := hB.ext K_2
    replace hM := hM.ext K_2
    replace hF := hF.ext K_2
    have K0 := (K_2 : Ext w _).to (S := (diskS d m fs))
    refine RL.val (x_moveT rfl) ?_
    refine RL.val (x_extract rfl rfl) ?_
    refine RL.val (x_extract rfl rfl) ?_
    refine RL.val (x_assignP rfl) ?_
    refine RL.val (x_assignI rfl) ?_
    refine RL.nil ?_
    refine Run.seq ?_
    refine Run.seq ?_
    refine Run.region ?_
    refine RL.val (x_moveI rfl) ?_
    refine RL.val (litF (x_eqI rfl rfl) (by decide)) ?_
    refine RL.nil ?_
    refine Run.condF rfl ?_
    refine Run.skip ?_
    refine Run.seq ?_
    refine Run.region ?_
    refine RL.val (x_moveI rfl) ?_
    refine RL.val (x_assignI rfl) ?_
    refine RL.nil ?_
    refine Run.ret1 (v := .int .i64 (6)) Tryz.func67 rfl rfl ?_
    exact ⟨_, rfl, fs, by rw [lookE_bad hmay], ⟨hB, hM, hF, hmd, hfd, hfm, hok⟩, by rw [syncL, upd_no (noP (badP hok hmay))], fun _ h _ => h, K0⟩
  · replace hB := hB.ext K_2
    replace hM := hM.ext K_2
    replace hF := hF.ext K_2
    have K0 := (K_2 : Ext w _).to (S := (diskS d m fs))
    refine RL.val (x_moveT rfl) ?_
    refine RL.val (x_extract rfl rfl) ?_
    refine RL.val (x_extract rfl rfl) ?_
    refine RL.val (x_assignP rfl) ?_
    refine RL.val (x_assignI rfl) ?_
    refine RL.nil ?_
    refine Run.seq ?_
    refine Run.seq ?_
    refine Run.region ?_
    refine RL.val (x_moveI rfl) ?_
    refine RL.val (litF (x_eqI rfl rfl) (by decide)) ?_
    refine RL.nil ?_
    refine Run.condF rfl ?_
    refine Run.skip ?_
    refine Run.seq ?_
    refine Run.region ?_
    refine RL.val (x_moveI rfl) ?_
    refine RL.val (x_assignI rfl) ?_
    refine RL.nil ?_
    refine Run.ret1 (v := .int .i64 (20)) Tryz.func67 rfl rfl ?_
    exact ⟨_, rfl, fs, by rw [lookE_no hmay hno], ⟨hB, hM, hF, hmd, hfd, hfm, hok⟩, by rw [syncL, upd_no (noP hno)], fun _ h _ => h, K0⟩
  · replace hB := hB.ext K_2
    replace hM := hM.ext K_2
    replace hF := hF.ext K_2
    have K0 := (K_2 : Ext w _).to (S := (diskS d m fs))
    have hfl := hlens f (mem_mid hfs)
    refine RL.val (x_moveT rfl) ?_
    refine RL.val (x_extract rfl rfl) ?_
    refine RL.val (x_extract rfl rfl) ?_
    refine RL.val (x_assignP rfl) ?_
    refine RL.val (x_assignI rfl) ?_
    refine RL.nil ?_
    refine Run.seq ?_
    refine Run.seq ?_
    refine Run.region ?_
    refine RL.val (x_moveI rfl) ?_
    refine RL.val (litT (x_eqI rfl rfl) (by decide)) ?_
    refine RL.nil ?_
    refine Run.condT rfl ?_
    obtain ⟨hfa, hR, hRf⟩ := hF.openE hfs
    obtain ⟨hb, ho, hoa⟩ := hfa
    have ne_3 : f.blk ≠ d := fun e_ => hfd (by first | (rw [← e_]; exact (files_subB hfs)) | rw [← e_])
    have pr_4 : ¬ one m f.blk := fun h_ => hfm _ (files_subB hfs) h_
    have if_5 : f.blk < w.heap.size → (diskS d m fs) f.blk := fun hl_ => (fun q_ h_ _ => Or.inr (Or.inr h_)) _ (files_subB hfs) hl_
    have pr_6 : ¬ own f.a d := fun h_ => hfd ((files_subO hfs) _ h_)
    have pr_7 : ∀ q_, own f.a q_ → ¬ one m q_ := fun q_ h_ => hfm q_ ((files_subO hfs) q_ h_)
    have pr_8 : ¬ filesS (l1 ++ l2) d := fun h_ => hfd ((files_subR hfs) _ h_)
    have pr_9 : ∀ q_, filesS (l1 ++ l2) q_ → ¬ one m q_ := fun q_ h_ => hfm q_ ((files_subR hfs) q_ h_)
    clear hF
    refine Run.region ?_
    refine RL.val (x_moveP rfl) ?_
    refine RL.val (x_moveP rfl) ?_
    refine RL.val (x_nilCheck rfl) ?_
    refine RL.val (x_fld (o' := 0) Tryz.underlying184 rfl ty74 rfl rfl rfl) ?_
    refine RL.val (x_ld (v := .slice (f.a) (f.bytes.length) (f.cap)) ty74 rfl rfl (hb.cl.field (i := 0) rfl)) ?_
    refine RL.val (x_lenSl Tryz.underlying74 rfl) ?_
    refine RL.val (x_nilCheck rfl) ?_
    refine RL.val (x_fld (o' := 1) Tryz.underlying184 rfl ty3 rfl rfl rfl) ?_
    refine RL.st rfl <| St1.store (v := .int .i64 (((f.bytes.length : Nat) : Int))) ty3 rfl rfl rfl (by simp [Value.cells, Value.oneCell']) hb (by simp) ?_
    intro w_10 hb_ K_11
    have hb' : Blk w_10 f.blk [.slice (f.a) (f.bytes.length) (f.cap), .int .i64 (((f.bytes.length : Nat) : Int))] 184 := hb_
    clear hb_
    replace hB := hB.keep K_11 (by simp only [one]; omega)
    replace hM := hM.keepO K_11 (fun q_ hq_ eq_ => pr_4 (by simp only [one] at eq_; rw [← eq_]; exact hq_))
    replace ho := ho.keepO K_11 (fun q_ hq_ eq_ => hoa (by simp only [one] at eq_; rw [← eq_]; exact hq_))
    replace hR := hR.keepO K_11 (fun q_ hq_ eq_ => (fun h_ => hRf _ h_ (Or.inl rfl)) (by simp only [one] at eq_; rw [← eq_]; exact hq_))
    replace K0 := K0.trans K_11 (fun x hlt hx => by simp only [one] at hx; subst hx; exact if_5 hlt)
    replace hb := hb'
    clear hb'
    refine RL.nil ?_
    refine Run.seq ?_
    refine Run.region ?_
    refine RL.val (x_moveI rfl) ?_
    refine RL.val (x_assignI rfl) ?_
    refine RL.nil ?_
    refine Run.ret1 (v := .int .i64 (0)) Tryz.func67 rfl rfl ?_
    have hF' : FilesAt w_10 (l1 ++ (⟨f.name, f.blk, f.a, f.cap, f.bytes, f.bytes.length⟩ : FileS) :: l2) := FilesAt.close ⟨hb, ho, hoa⟩ hR (fun q_ h1 h2 => h2.elim (fun e_ => (fun h_ => hRf _ h_ (Or.inl rfl)) (show filesS (l1 ++ l2) f.blk from (show q_ = f.blk from e_) ▸ h1)) (fun y_ => (fun q_ h1 h2 => hRf q_ h1 (Or.inr h2)) q_ h1 y_))
    have pr_12 : ¬ filesS (l1 ++ (⟨f.name, f.blk, f.a, f.cap, f.bytes, f.bytes.length⟩ : FileS) :: l2) d := fun x_ => (files_case' _ x_).elim (fun e_ => absurd e_ (by omega)) (fun y_ => y_.elim pr_6 (fun y_ => pr_8 y_))
    have pr_13 : ∀ q_, filesS (l1 ++ (⟨f.name, f.blk, f.a, f.cap, f.bytes, f.bytes.length⟩ : FileS) :: l2) q_ → ¬ one m q_ := fun q_ x_ z_ => (files_case' _ x_).elim (fun e_ => pr_4 (show one m f.blk from e_ ▸ z_)) (fun y_ => y_.elim (fun y_ => pr_7 q_ y_ z_) (fun y_ => (fun y_ => pr_9 q_ y_ z_) y_))
    have pg_14 : ∀ q_, filesS (l1 ++ (⟨f.name, f.blk, f.a, f.cap, f.bytes, f.bytes.length⟩ : FileS) :: l2) q_ → q_ < w.heap.size → (diskS d m fs) q_ := fun q_ x_ hl_ => (files_case' _ x_).elim (fun e_ => e_ ▸ if_5 (e_ ▸ hl_)) (fun y_ => y_.elim (fun y_ => (fun q_ h_ hl_ => (fun q_ h_ _ => Or.inr (Or.inr h_)) q_ ((files_subO hfs) q_ h_) hl_) q_ y_ hl_) (fun y_ => (fun y_ => (fun q_ h_ hl_ => (fun q_ h_ _ => Or.inr (Or.inr h_)) q_ ((files_subR hfs) q_ h_) hl_) q_ y_ hl_) y_))
    have hme : MapAt w_10 m (ents (l1 ++ (⟨f.name, f.blk, f.a, f.cap, f.bytes, f.bytes.length⟩ : FileS) :: l2)) := by first | exact hM | (have h_ := hM; rw [ents_fs hfs] at h_; exact h_)
    exact ⟨_, rfl, (l1 ++ (⟨f.name, f.blk, f.a, f.cap, f.bytes, f.bytes.length⟩ : FileS) :: l2), by rw [lookE_in hmay hfs hfn], ⟨hB, hme, hF', hmd, pr_12, pr_13, by rw [sync_in hnd hfs hfn]; exact hok.syn⟩, sync_in hnd hfs hfn, disk_moved pg_14, K0⟩

set_option maxRecDepth 100000 in
set_option maxHeartbeats 4000000 in
theorem append_ (d m : Nat) (room : Int) (fs : List FileS) (name : ByteArray) (a : Option Addr) (b : List UInt8) (c : Nat) (w : World) (hD : DiskO w d m room fs) (hs : name.size ≤ 4294967295) (hsl : SlOf w a b) (hdis : ∀ x, a = some x → b ≠ [] → ¬ diskS d m fs x.block) (hbl : b.length ≤ 4294967295) :
    Calls Tryz.prog 69 #[.pointer (some ⟨d, 0, none⟩), .string (name), .slice (a) (b.length) (c)] w (Ret (fun v w' => ∃ fs', v = .int .i64 (appE room (fs.map FileS.p) name b) ∧ DiskO w' d m room fs' ∧ fs'.map FileS.p = appL room (fs.map FileS.p) name b ∧ (∀ q, diskS d m fs' q → q < w.heap.size → diskS d m fs q) ∧ Keeps (diskS d m fs) w w')) := by
  obtain ⟨hB, hM, hF, hmd, hfd, hfm, hok⟩ := hD
  have hnd := DiskO.names hok
  have hlens := PLOk.lens hok
  have hroom := hok.room
  have hused := hok.used
  have hcnt := hok.len
  rw [List.length_map] at hcnt
  have hel : (ents fs).length = fs.length := List.length_map ..
  refine calls_run (n := 63) Tryz.func69 rfl rfl rfl ?_
  refine Run.seq ?_
  refine Run.region ?_
  refine RL.val (x_assignI rfl) ?_
  refine RL.nil ?_
  refine Run.seq ?_
  refine Run.region ?_
  refine RL.val (x_moveP rfl) ?_
  refine RL.val (x_moveS rfl) ?_
  refine RL.st rfl <| St1.call (vals := [.pointer (some ⟨d, 0, none⟩), .string (name)]) en117 rfl (look_ d m room fs name _ (⟨hB, hM, hF, hmd, hfd, hfm, hok⟩ : DiskO _ d m room fs) (by omega)) ?_
  rintro _ w_1 ⟨K_2, (⟨hmay, rfl⟩ | ⟨hmay, hno, rfl⟩ | ⟨hmay, l1, f, l2, hfs, hfn, rfl⟩)⟩
  · replace hB := hB.ext K_2
    replace hM := hM.ext K_2
    replace hF := hF.ext K_2
    have K0 := (K_2 : Ext w _).to (S := (diskS d m fs))
    refine RL.val (x_moveT rfl) ?_
    refine RL.val (x_extract rfl rfl) ?_
    refine RL.val (x_extract rfl rfl) ?_
    refine RL.val (x_assignP rfl) ?_
    refine RL.val (x_assignI rfl) ?_
    refine RL.nil ?_
    refine Run.seq ?_
    refine Run.seq ?_
    refine Run.region ?_
    refine RL.val (x_moveI rfl) ?_
    refine RL.val (litT (x_neI rfl rfl) (by decide)) ?_
    refine RL.val (x_moveB rfl) ?_
    refine RL.gst (wantedT1 rfl rfl rfl rfl) <| St1.val (x_moveI rfl) ?_
    refine RL.gst (wantedT1 rfl rfl rfl rfl) <| St1.val (litT (x_neI rfl rfl) (by decide)) ?_
    refine RL.val (x_andT rfl rfl rfl) ?_
    refine RL.nil ?_
    refine Run.condT rfl ?_
    refine Run.seq ?_
    refine Run.region ?_
    refine RL.val (x_moveI rfl) ?_
    refine RL.val (x_assignI rfl) ?_
    refine RL.nil ?_
    refine Run.ret1 (v := .int .i64 (6)) Tryz.func69 rfl rfl ?_
    exact ⟨_, rfl, fs, by rw [appE_bad hmay], ⟨hB, hM, hF, hmd, hfd, hfm, hok⟩, by rw [appL_no (by rw [appE_bad hmay]; decide)], fun _ h _ => h, K0⟩
  · replace hB := hB.ext K_2
    replace hM := hM.ext K_2
    replace hF := hF.ext K_2
    have K0 := (K_2 : Ext w _).to (S := (diskS d m fs))
    refine RL.val (x_moveT rfl) ?_
    refine RL.val (x_extract rfl rfl) ?_
    refine RL.val (x_extract rfl rfl) ?_
    refine RL.val (x_assignP rfl) ?_
    refine RL.val (x_assignI rfl) ?_
    refine RL.nil ?_
    refine Run.seq ?_
    refine Run.seq ?_
    refine Run.region ?_
    refine RL.val (x_moveI rfl) ?_
    refine RL.val (litT (x_neI rfl rfl) (by decide)) ?_
    refine RL.val (x_moveB rfl) ?_
    refine RL.gst (wantedT1 rfl rfl rfl rfl) <| St1.val (x_moveI rfl) ?_
    refine RL.gst (wantedT1 rfl rfl rfl rfl) <| St1.val (litF (x_neI rfl rfl) (by decide)) ?_
    refine RL.val (x_andT rfl rfl rfl) ?_
    refine RL.nil ?_
    refine Run.condF rfl ?_
    refine Run.skip ?_
    refine Run.seq ?_
    refine Run.seq ?_
    refine Run.drawT [] (m := 22) (by kernel_rfl) rfl ?_
    intro w_3 K_4
    replace hB := hB.ext K_4
    replace hM := hM.ext K_4
    replace hF := hF.ext K_4
    replace K0 := K0.ext K_4
    refine ⟨fun w' => Blk w' d [.map (some m), .int .i64 (room)] 152 ∧ MapAt w' m (ents fs) ∧ True, ?_⟩
    refine RT.takeP (v := .pointer none) 0 rfl (by kernel_rfl) (.inr ⟨hB, hM, trivial⟩) (fun _ => (x_moveP rfl)) ?_
    refine RT.takeP (v := .bool (true)) 1 rfl (by kernel_rfl) (.inr ⟨hB, hM, trivial⟩) (fun _ => (litT (x_ptrNil Tryz.underlying180 rfl rfl) rfl)) ?_
    refine RT.takeP (v := .bool (true)) 2 rfl (by kernel_rfl) (.inr ⟨hB, hM, trivial⟩) (fun _ => (x_moveB rfl)) ?_
    refine RT.gtakeP (v := .pointer (some ⟨d, 0, none⟩)) 3 rfl (by kernel_rfl) (.inr ⟨hB, hM, trivial⟩) (wantedT1 rfl rfl rfl rfl) (fun hg _ => (x_moveP rfl)) ?_
    refine RT.gtakeP (v := .pointer (some ⟨d, 0, none⟩)) 4 rfl (by kernel_rfl) (.inr ⟨hB, hM, trivial⟩) (wantedT1 rfl rfl rfl rfl) (fun hg _ => (x_nilCheck rfl)) ?_
    refine RT.gtakeP (v := .pointer (some ⟨d, 0, none⟩)) 5 rfl (by kernel_rfl) (.inr ⟨hB, hM, trivial⟩) (wantedT1 rfl rfl rfl rfl) (fun hg _ => (x_fld (o' := 0) Tryz.underlying152 rfl ty150 rfl rfl rfl)) ?_
    refine RT.gtake (v := .map (some m)) 6 rfl (by kernel_rfl) ⟨hB, hM, trivial⟩ (wantedT1 rfl rfl rfl rfl) (fun hg => by rintro _ ⟨hB, hM, -⟩; exact (x_ld (v := .map (some m)) ty150 rfl rfl (hB.cl.field (i := 0) rfl))) ?_
    refine RT.gtake (v := .int .i64 ((((ents fs).length : Nat) : Int))) 7 rfl (by kernel_rfl) ⟨hB, hM, trivial⟩ (wantedT1 rfl rfl rfl rfl) (fun hg => by rintro _ ⟨hB, hM, -⟩; exact (x_lenMap Tryz.underlying150 rfl hM)) ?_
    refine RT.gtakeP (v := .bool (decide (64 ≤ (((ents fs).length : Nat) : Int)))) 8 rfl (by kernel_rfl) (.inr ⟨hB, hM, trivial⟩) (wantedT1 rfl rfl rfl rfl) (fun hg _ => (x_geI rfl rfl)) ?_
    refine RT.takeP (v := .bool (decide (64 ≤ (((ents fs).length : Nat) : Int)))) 9 rfl (by kernel_rfl) (.inr ⟨hB, hM, trivial⟩) (fun _ => (x_andT rfl rfl rfl)) ?_
    refine RT.takeP (v := .bool (decide (64 ≤ (((ents fs).length : Nat) : Int)))) 10 rfl (by kernel_rfl) (.inr ⟨hB, hM, trivial⟩) (fun _ => (x_moveB rfl)) ?_
    refine RT.gtakeP (v := .slice (a) (b.length) (c)) 11 rfl (by kernel_rfl) (.inr ⟨hB, hM, trivial⟩) (wantedF rfl rfl rfl rfl) (fun hg _ => (x_moveSl rfl)) ?_
    refine RT.gtakeP (v := .int .i64 (((b.length : Nat) : Int))) 12 rfl (by kernel_rfl) (.inr ⟨hB, hM, trivial⟩) (wantedF rfl rfl rfl rfl) (fun hg _ => (x_lenSl Tryz.underlying74 (gvr hg))) ?_
    refine RT.gtakeP (v := .pointer (some ⟨d, 0, none⟩)) 13 rfl (by kernel_rfl) (.inr ⟨hB, hM, trivial⟩) (wantedF rfl rfl rfl rfl) (fun hg _ => (x_moveP rfl)) ?_
    refine RT.gtakeP (v := .pointer (some ⟨d, 0, none⟩)) 14 rfl (by kernel_rfl) (.inr ⟨hB, hM, trivial⟩) (wantedF rfl rfl rfl rfl) (fun hg _ => (x_nilCheck (gvr hg))) ?_
    refine RT.gtakeP (v := .pointer (some ⟨d, 1, none⟩)) 15 rfl (by kernel_rfl) (.inr ⟨hB, hM, trivial⟩) (wantedF rfl rfl rfl rfl) (fun hg _ => (x_fld (o' := 1) Tryz.underlying152 rfl ty3 rfl (gvr hg) rfl)) ?_
    refine RT.gtake (v := .int .i64 (room)) 16 rfl (by kernel_rfl) ⟨hB, hM, trivial⟩ (wantedF rfl rfl rfl rfl) (fun hg => by rintro _ ⟨hB, hM, -⟩; exact (x_ld (v := .int .i64 (room)) ty3 (gvr hg) rfl (hB.cl.field (i := 1) rfl))) ?_
    refine RT.gtakeP (v := .pointer (some ⟨d, 0, none⟩)) 17 rfl (by kernel_rfl) (.inr ⟨hB, hM, trivial⟩) (wantedF rfl rfl rfl rfl) (fun hg _ => (x_moveP rfl)) ?_
    refine RT.gcall (vals := [.pointer (some ⟨d, 0, none⟩)]) 18 rfl (by kernel_rfl) (wantedF rfl rfl rfl rfl) en120 (fun hg => (mcons (gvr hg) mnil)) (fun hg => (used_ d m room fs _ (⟨hB, hM, hF, hmd, hfd, hfm, hok⟩ : DiskO _ d m room fs))) ?_
    intro w_5 K_6
    replace hB := hB.ext K_6
    replace hM := hM.ext K_6
    replace hF := hF.ext K_6
    replace K0 := K0.ext K_6
    refine ⟨.inr ⟨hB, hM, trivial⟩, ?_⟩
    refine RT.gtakeP (v := .int .i64 (room - ((usedL (fs.map FileS.p) : Nat) : Int))) 19 rfl (by kernel_rfl) (.inr ⟨hB, hM, trivial⟩) (wantedF rfl rfl rfl rfl) (fun hg _ => (x_sub (gvr hg) (gvr hg) (by omega) (by omega))) ?_
    refine RT.gtakeP (v := .bool (decide ((room - ((usedL (fs.map FileS.p) : Nat) : Int)) < ((b.length : Nat) : Int)))) 20 rfl (by kernel_rfl) (.inr ⟨hB, hM, trivial⟩) (wantedF rfl rfl rfl rfl) (fun hg _ => (x_gtI (gvr hg) (gvr hg))) ?_
    refine RT.takeP (v := .bool ((decide (64 ≤ (((ents fs).length : Nat) : Int))) || (decide ((room - ((usedL (fs.map FileS.p) : Nat) : Int)) < ((b.length : Nat) : Int))))) 21 rfl (by kernel_rfl) (.inr ⟨hB, hM, trivial⟩) (fun _ => (x_or rfl rfl rfl)) ?_
    refine RT.done (by kernel_rfl) ?_
    refine Run.cond rfl (fun hc43 => ?_) (fun hc43 => ?_)
    · try simp only [br] at hc43
      refine Run.seq ?_
      refine Run.region ?_
      refine RL.val (x_assignI rfl) ?_
      refine RL.nil ?_
      refine Run.ret1 (v := .int .i64 (7)) Tryz.func69 rfl rfl ?_
      have he7 : appE room (fs.map FileS.p) name b = 7 := appE_full hmay (by first | exact .inr hc43 | (rcases hc43 with h | h; exact .inl ⟨hasP_no hno, by rw [List.length_map]; omega⟩; exact .inr h))
      exact ⟨_, rfl, fs, by rw [he7], ⟨hB, hM, hF, hmd, hfd, hfm, hok⟩, by rw [appL_no (by rw [he7]; decide)], fun _ h _ => h, K0⟩
    · try simp only [br] at hc43
      refine Run.skip ?_
      refine Run.seq ?_
      refine Run.seq ?_
      have he0 : appE room (fs.map FileS.p) name b = 0 := appE_ok hmay (by rintro (⟨h1, h2⟩ | h1); rw [List.length_map] at h2; omega; omega)
      refine Run.region ?_
      refine RL.val (x_moveP rfl) ?_
      refine RL.val (litT (x_ptrNil Tryz.underlying180 rfl rfl) rfl) ?_
      refine RL.nil ?_
      refine Run.condT rfl ?_
      refine Run.seq ?_
      refine Run.region ?_
      refine RL.val (x_build (cells := #[.slice (none) (0) (0), .int .i64 (0)]) (by kernel_rfl)) ?_
      refine RL.st rfl <| St1.box (v := .agg #[.slice (none) (0) (0), .int .i64 (0)]) rfl ?_
      intro b_7 w_8 hl_11 hb_10 K_9
      replace hb_10 : Blk w_8 b_7 [.slice (none) (0) (0), .int .i64 (0)] 184 := hb_10
      have ne_12 : d < b_7 := Nat.lt_of_lt_of_le hB.lt hl_11
      have pr_13 : ¬ one m b_7 := fun h => absurd (hM.own_lt _ h) (by omega)
      have pr_14 : ¬ filesS fs b_7 := fun h => absurd (hF.own_lt _ h) (by omega)
      have : w.heap.size ≤ b_7 := Nat.le_trans K0.size hl_11
      clear hl_11
      replace hB := hB.ext K_9
      replace hM := hM.ext K_9
      replace hF := hF.ext K_9
      replace K0 := K0.ext K_9
      refine RL.val (x_assignP rfl) ?_
      refine RL.nil ?_
      refine Run.region ?_
      refine RL.val (x_moveP rfl) ?_
      refine RL.val (x_nilCheck rfl) ?_
      refine RL.val (x_fld (o' := 0) Tryz.underlying152 rfl ty150 rfl rfl rfl) ?_
      refine RL.val (x_ld (v := .map (some m)) ty150 rfl rfl (hB.cl.field (i := 0) rfl)) ?_
      refine RL.val (x_moveS rfl) ?_
      refine RL.val (x_moveP rfl) ?_
      refine RL.st rfl <| St1.mapUpdate (v := .pointer (some ⟨b_7, 0, none⟩)) Tryz.underlying150 Tryz.underlying9 rfl rfl rfl rfl hM ?_
      intro w_15 hM_16 K_17
      replace hM_16 : MapAt w_15 m (ents (fs ++ [⟨name, b_7, none, 0, [], 0⟩])) := (ents_put_new hno b_7 none 0 [] 0 ▸ hM_16)
      replace hB := hB.keep K_17 hmd
      replace hF := hF.keepO K_17 hfm
      replace hb_10 := hb_10.keep K_17 pr_13
      replace K0 := K0.trans K_17 (fun x hlt hx => (fun q_ h_ _ => Or.inr (Or.inl h_)) x hx hlt)
      replace hM := hM_16
      clear hM_16
      refine RL.nil ?_
      refine Run.seq ?_
      refine Run.region ?_
      refine RL.val (x_moveP rfl) ?_
      refine RL.val (x_moveP rfl) ?_
      refine RL.val (x_nilCheck rfl) ?_
      refine RL.val (x_fld (o' := 0) Tryz.underlying184 rfl ty74 rfl rfl rfl) ?_
      refine RL.val (x_ld (v := .slice (none) (0) (0)) ty74 rfl rfl (hb_10.cl.field (i := 0) rfl)) ?_
      refine RL.val (x_moveSl rfl) ?_
      have ho_18 := OwnSl.nil (α := UInt8) w_15 5
      refine RL.st rfl <| St1.append (xs := ([] : List UInt8)) (ys := b) Tryz.underlying74 ty5 rfl rfl rfl ho_18 (hsl.keepN K0 hdis) (by first | omega | (simp only [lr]; omega)) (by decide) ?_
      intro a_19 c_20 w_21 ho_22 K_23 hm_24 hrm_25
      have pr_26 : ¬ own a_19 d := hm_24.not (own_none d) hB.lt
      have pr_27 : ∀ q_, own a_19 q_ → ¬ one m q_ := hm_24.apart (fun q_ h1 _ => own_none q_ h1) hM.own_lt
      have pr_28 : ∀ q_, own a_19 q_ → ¬ filesS fs q_ := hm_24.apart (fun q_ h1 _ => own_none q_ h1) hF.own_lt
      have pr_29 : ¬ own a_19 b_7 := hm_24.not (own_none b_7) hb_10.lt
      have pg_30 : ∀ q_, own a_19 q_ → q_ < w.heap.size → (diskS d m fs) q_ := hm_24.inS (fun q_ h1 _ => absurd h1 (own_none q_)) K0.size
      have pw_31 : ∀ q_, own a_19 q_ → w.heap.size ≤ q_ := hm_24.ge (fun q_ h1 => absurd h1 (own_none q_)) K0.size
      replace hB := hB.keep K_23 (own_none d)
      replace hM := hM.keepO K_23 (fun q_ h1 h2 => (fun q_ h1 _ => own_none q_ h1) q_ h2 h1)
      replace hF := hF.keepO K_23 (fun q_ h1 h2 => (fun q_ h1 _ => own_none q_ h1) q_ h2 h1)
      replace hb_10 := hb_10.keep K_23 (own_none b_7)
      replace K0 := K0.trans K_23 (fun x hlt hx => (fun q_ h1 _ => absurd h1 (own_none q_)) x hx hlt)
      clear hm_24
      clear hrm_25
      refine RL.val (x_nilCheck rfl) ?_
      refine RL.val (x_fld (o' := 0) Tryz.underlying184 rfl ty74 rfl rfl rfl) ?_
      refine RL.st rfl <| St1.store (v := .slice (a_19) ((([] : List UInt8) ++ b).length) (c_20)) ty74 rfl rfl rfl (by simp [Value.cells, Value.oneCell']) hb_10 (by simp) ?_
      intro w_32 hb_10_ K_33
      have hb_10' : Blk w_32 b_7 [.slice (a_19) ((([] : List UInt8) ++ b).length) (c_20), .int .i64 (0)] 184 := hb_10_
      clear hb_10_
      replace hB := hB.keep K_33 (by simp only [one]; omega)
      replace hM := hM.keepO K_33 (fun q_ hq_ eq_ => pr_13 (by simp only [one] at eq_; rw [← eq_]; exact hq_))
      replace hF := hF.keepO K_33 (fun q_ hq_ eq_ => pr_14 (by simp only [one] at eq_; rw [← eq_]; exact hq_))
      replace ho_22 := ho_22.keepO K_33 (fun q_ hq_ eq_ => pr_29 (by simp only [one] at eq_; rw [← eq_]; exact hq_))
      replace K0 := K0.trans K_33 (fun x hlt hx => absurd hlt (by simp only [one] at hx; omega))
      replace hb_10 := hb_10'
      clear hb_10'
      refine RL.nil ?_
      refine Run.seq ?_
      refine Run.region ?_
      refine RL.val (x_assignI rfl) ?_
      refine RL.nil ?_
      refine Run.ret1 (v := .int .i64 (0)) Tryz.func69 rfl rfl ?_
      rw [List.nil_append] at hb_10 ho_22
      have hF' : FilesAt w_32 (fs ++ [(⟨name, b_7, a_19, c_20, b, 0⟩ : FileS)]) := FilesAt.snoc ⟨hb_10, ho_22, pr_29⟩ hF (fun q_ h1 h2 => h2.elim (fun e_ => pr_14 (show filesS fs b_7 from (show q_ = b_7 from e_) ▸ h1)) (fun y_ => (fun q_ h1 h2 => pr_28 q_ h2 h1) q_ h1 y_))
      have pr_34 : ¬ filesS (fs ++ [(⟨name, b_7, a_19, c_20, b, 0⟩ : FileS)]) d := fun x_ => (files_end _ x_).elim (fun e_ => absurd e_ (by omega)) (fun y_ => y_.elim pr_26 (fun y_ => hfd y_))
      have pr_35 : ∀ q_, filesS (fs ++ [(⟨name, b_7, a_19, c_20, b, 0⟩ : FileS)]) q_ → ¬ one m q_ := fun q_ x_ z_ => (files_end _ x_).elim (fun e_ => pr_13 (show one m b_7 from e_ ▸ z_)) (fun y_ => y_.elim (fun y_ => pr_27 q_ y_ z_) (fun y_ => (fun y_ => hfm q_ y_ z_) y_))
      have pg_36 : ∀ q_, filesS (fs ++ [(⟨name, b_7, a_19, c_20, b, 0⟩ : FileS)]) q_ → q_ < w.heap.size → (diskS d m fs) q_ := fun q_ x_ hl_ => (files_end _ x_).elim (fun e_ => absurd hl_ (by omega)) (fun y_ => y_.elim (fun y_ => pg_30 q_ y_ hl_) (fun y_ => (fun y_ => (fun q_ h_ _ => Or.inr (Or.inr h_)) q_ y_ hl_) y_))
      have hme : MapAt w_32 m (ents (fs ++ [(⟨name, b_7, a_19, c_20, b, 0⟩ : FileS)])) := by first | exact hM | (have h_ := hM; rw [ents_snoc name b_7 none a_19 0 c_20 [] b 0 0] at h_; exact h_)
      exact ⟨_, rfl, (fs ++ [(⟨name, b_7, a_19, c_20, b, 0⟩ : FileS)]), by rw [he0], ⟨hB, hme, hF', hmd, pr_34, pr_35, by rw [app_new he0 hno _ _ _]; exact hok.app⟩, app_new he0 hno _ _ _, disk_moved pg_36, K0⟩
  · replace hB := hB.ext K_2
    replace hM := hM.ext K_2
    replace hF := hF.ext K_2
    have K0 := (K_2 : Ext w _).to (S := (diskS d m fs))
    have hfl := hlens f (mem_mid hfs)
    refine RL.val (x_moveT rfl) ?_
    refine RL.val (x_extract rfl rfl) ?_
    refine RL.val (x_extract rfl rfl) ?_
    refine RL.val (x_assignP rfl) ?_
    refine RL.val (x_assignI rfl) ?_
    refine RL.nil ?_
    refine Run.seq ?_
    refine Run.seq ?_
    refine Run.region ?_
    refine RL.val (x_moveI rfl) ?_
    refine RL.val (litF (x_neI rfl rfl) (by decide)) ?_
    refine RL.val (x_moveB rfl) ?_
    refine RL.guardF (wantedT0 rfl rfl rfl rfl) ?_
    refine RL.guardF (wantedT0 rfl rfl rfl rfl) ?_
    refine RL.val (x_and (b := false) (e := false) rfl rfl rfl) ?_
    refine RL.nil ?_
    refine Run.condF rfl ?_
    refine Run.skip ?_
    refine Run.seq ?_
    refine Run.seq ?_
    refine Run.drawT [] (m := 22) (by kernel_rfl) rfl ?_
    intro w_37 K_38
    replace hB := hB.ext K_38
    replace hM := hM.ext K_38
    replace hF := hF.ext K_38
    replace K0 := K0.ext K_38
    refine ⟨fun w' => Blk w' d [.map (some m), .int .i64 (room)] 152 ∧ True, ?_⟩
    refine RT.takeP (v := .pointer (some ⟨f.blk, 0, none⟩)) 0 rfl (by kernel_rfl) (.inr ⟨hB, trivial⟩) (fun _ => (x_moveP rfl)) ?_
    refine RT.takeP (v := .bool (false)) 1 rfl (by kernel_rfl) (.inr ⟨hB, trivial⟩) (fun _ => (litF (x_ptrNil Tryz.underlying180 rfl rfl) rfl)) ?_
    refine RT.takeP (v := .bool (false)) 2 rfl (by kernel_rfl) (.inr ⟨hB, trivial⟩) (fun _ => (x_moveB rfl)) ?_
    refine RT.gtakeP (v := undef) 3 rfl (by kernel_rfl) (.inr ⟨hB, trivial⟩) (wantedT0 rfl rfl rfl rfl) (fun hg => by cases hg) ?_
    refine RT.gtakeP (v := undef) 4 rfl (by kernel_rfl) (.inr ⟨hB, trivial⟩) (wantedT0 rfl rfl rfl rfl) (fun hg => by cases hg) ?_
    refine RT.gtakeP (v := undef) 5 rfl (by kernel_rfl) (.inr ⟨hB, trivial⟩) (wantedT0 rfl rfl rfl rfl) (fun hg => by cases hg) ?_
    refine RT.gtakeP (v := undef) 6 rfl (by kernel_rfl) (.inr ⟨hB, trivial⟩) (wantedT0 rfl rfl rfl rfl) (fun hg => by cases hg) ?_
    refine RT.gtakeP (v := undef) 7 rfl (by kernel_rfl) (.inr ⟨hB, trivial⟩) (wantedT0 rfl rfl rfl rfl) (fun hg => by cases hg) ?_
    refine RT.gtakeP (v := undef) 8 rfl (by kernel_rfl) (.inr ⟨hB, trivial⟩) (wantedT0 rfl rfl rfl rfl) (fun hg => by cases hg) ?_
    refine RT.takeP (v := .bool (false)) 9 rfl (by kernel_rfl) (.inr ⟨hB, trivial⟩) (fun _ => (x_and (b := false) (e := false) rfl rfl rfl)) ?_
    refine RT.takeP (v := .bool (false)) 10 rfl (by kernel_rfl) (.inr ⟨hB, trivial⟩) (fun _ => (x_moveB rfl)) ?_
    refine RT.gtakeP (v := .slice (a) (b.length) (c)) 11 rfl (by kernel_rfl) (.inr ⟨hB, trivial⟩) (wantedF1 rfl rfl rfl rfl) (fun hg _ => (x_moveSl rfl)) ?_
    refine RT.gtakeP (v := .int .i64 (((b.length : Nat) : Int))) 12 rfl (by kernel_rfl) (.inr ⟨hB, trivial⟩) (wantedF1 rfl rfl rfl rfl) (fun hg _ => (x_lenSl Tryz.underlying74 rfl)) ?_
    refine RT.gtakeP (v := .pointer (some ⟨d, 0, none⟩)) 13 rfl (by kernel_rfl) (.inr ⟨hB, trivial⟩) (wantedF1 rfl rfl rfl rfl) (fun hg _ => (x_moveP rfl)) ?_
    refine RT.gtakeP (v := .pointer (some ⟨d, 0, none⟩)) 14 rfl (by kernel_rfl) (.inr ⟨hB, trivial⟩) (wantedF1 rfl rfl rfl rfl) (fun hg _ => (x_nilCheck rfl)) ?_
    refine RT.gtakeP (v := .pointer (some ⟨d, 1, none⟩)) 15 rfl (by kernel_rfl) (.inr ⟨hB, trivial⟩) (wantedF1 rfl rfl rfl rfl) (fun hg _ => (x_fld (o' := 1) Tryz.underlying152 rfl ty3 rfl rfl rfl)) ?_
    refine RT.gtake (v := .int .i64 (room)) 16 rfl (by kernel_rfl) ⟨hB, trivial⟩ (wantedF1 rfl rfl rfl rfl) (fun hg => by rintro _ ⟨hB, -⟩; exact (x_ld (v := .int .i64 (room)) ty3 rfl rfl (hB.cl.field (i := 1) rfl))) ?_
    refine RT.gtakeP (v := .pointer (some ⟨d, 0, none⟩)) 17 rfl (by kernel_rfl) (.inr ⟨hB, trivial⟩) (wantedF1 rfl rfl rfl rfl) (fun hg _ => (x_moveP rfl)) ?_
    refine RT.gst 18 rfl (by kernel_rfl) (wantedF1 rfl rfl rfl rfl) <| St1.call (vals := [.pointer (some ⟨d, 0, none⟩)]) en120 rfl (used_ d m room fs _ (⟨hB, hM, hF, hmd, hfd, hfm, hok⟩ : DiskO _ d m room fs)) ?_
    rintro _ w_39 ⟨rfl, K_40⟩
    replace hB := hB.ext K_40
    replace hM := hM.ext K_40
    replace hF := hF.ext K_40
    replace K0 := K0.ext K_40
    refine ⟨.inr ⟨hB, trivial⟩, ?_⟩
    refine RT.gtakeP (v := .int .i64 (room - ((usedL (fs.map FileS.p) : Nat) : Int))) 19 rfl (by kernel_rfl) (.inr ⟨hB, trivial⟩) (wantedF1 rfl rfl rfl rfl) (fun hg _ => (x_sub rfl rfl (by omega) (by omega))) ?_
    refine RT.gtakeP (v := .bool (decide ((room - ((usedL (fs.map FileS.p) : Nat) : Int)) < ((b.length : Nat) : Int)))) 20 rfl (by kernel_rfl) (.inr ⟨hB, trivial⟩) (wantedF1 rfl rfl rfl rfl) (fun hg _ => (x_gtI rfl rfl)) ?_
    refine RT.takeP (v := .bool (decide ((room - ((usedL (fs.map FileS.p) : Nat) : Int)) < ((b.length : Nat) : Int)))) 21 rfl (by kernel_rfl) (.inr ⟨hB, trivial⟩) (fun _ => (x_orF rfl rfl rfl)) ?_
    refine RT.done (by kernel_rfl) ?_
    refine Run.cond rfl (fun hc43 => ?_) (fun hc43 => ?_)
    · try simp only [br] at hc43
      refine Run.seq ?_
      refine Run.region ?_
      refine RL.val (x_assignI rfl) ?_
      refine RL.nil ?_
      refine Run.ret1 (v := .int .i64 (7)) Tryz.func69 rfl rfl ?_
      have he7 : appE room (fs.map FileS.p) name b = 7 := appE_full hmay (by first | exact .inr hc43 | (rcases hc43 with h | h; exact .inl ⟨hasP_no hno, by rw [List.length_map]; omega⟩; exact .inr h))
      exact ⟨_, rfl, fs, by rw [he7], ⟨hB, hM, hF, hmd, hfd, hfm, hok⟩, by rw [appL_no (by rw [he7]; decide)], fun _ h _ => h, K0⟩
    · try simp only [br] at hc43
      refine Run.skip ?_
      refine Run.seq ?_
      refine Run.seq ?_
      have he0 : appE room (fs.map FileS.p) name b = 0 := appE_ok hmay (by rintro (⟨h1, h2⟩ | h1); rw [hasP_in hfs hfn] at h1; cases h1; omega)
      refine Run.region ?_
      refine RL.val (x_moveP rfl) ?_
      refine RL.val (litF (x_ptrNil Tryz.underlying180 rfl rfl) rfl) ?_
      refine RL.nil ?_
      refine Run.condF rfl ?_
      refine Run.skip ?_
      refine Run.seq ?_
      obtain ⟨hfa, hR, hRf⟩ := hF.openE hfs
      obtain ⟨hb, ho, hoa⟩ := hfa
      have ne_41 : f.blk ≠ d := fun e_ => hfd (by first | (rw [← e_]; exact (files_subB hfs)) | rw [← e_])
      have pr_42 : ¬ one m f.blk := fun h_ => hfm _ (files_subB hfs) h_
      have if_43 : f.blk < w.heap.size → (diskS d m fs) f.blk := fun hl_ => (fun q_ h_ _ => Or.inr (Or.inr h_)) _ (files_subB hfs) hl_
      have pr_44 : ¬ own f.a d := fun h_ => hfd ((files_subO hfs) _ h_)
      have pr_45 : ∀ q_, own f.a q_ → ¬ one m q_ := fun q_ h_ => hfm q_ ((files_subO hfs) q_ h_)
      have pr_46 : ¬ filesS (l1 ++ l2) d := fun h_ => hfd ((files_subR hfs) _ h_)
      have pr_47 : ∀ q_, filesS (l1 ++ l2) q_ → ¬ one m q_ := fun q_ h_ => hfm q_ ((files_subR hfs) q_ h_)
      clear hF
      refine Run.region ?_
      refine RL.val (x_moveP rfl) ?_
      refine RL.val (x_moveP rfl) ?_
      refine RL.val (x_nilCheck rfl) ?_
      refine RL.val (x_fld (o' := 0) Tryz.underlying184 rfl ty74 rfl rfl rfl) ?_
      refine RL.val (x_ld (v := .slice (f.a) (f.bytes.length) (f.cap)) ty74 rfl rfl (hb.cl.field (i := 0) rfl)) ?_
      refine RL.val (x_moveSl rfl) ?_
      refine RL.st rfl <| St1.append (xs := f.bytes) (ys := b) Tryz.underlying74 ty5 rfl rfl rfl ho (hsl.keepN K0 hdis) (by first | omega | (simp only [lr]; omega)) (by decide) ?_
      intro a_48 c_49 w_50 ho_51 K_52 hm_53 hrm_54
      have pr_55 : ¬ own a_48 d := hm_53.not pr_44 hB.lt
      have pr_56 : ∀ q_, own a_48 q_ → ¬ one m q_ := hm_53.apart pr_45 hM.own_lt
      have pr_57 : ¬ own a_48 f.blk := hm_53.not hoa hb.lt
      have pr_58 : ∀ q_, own a_48 q_ → ¬ filesS (l1 ++ l2) q_ := hm_53.apart (fun q_ h1 h2 => (fun q_ h1 h2 => hRf q_ h1 (Or.inr h2)) q_ h2 h1) hR.own_lt
      have pg_59 : ∀ q_, own a_48 q_ → q_ < w.heap.size → (diskS d m fs) q_ := hm_53.inS (fun q_ h_ hl_ => (fun q_ h_ _ => Or.inr (Or.inr h_)) q_ ((files_subO hfs) q_ h_) hl_) K0.size
      replace hB := hB.keep K_52 pr_44
      replace hM := hM.keepO K_52 (fun q_ h1 h2 => pr_45 q_ h2 h1)
      replace hb := hb.keep K_52 hoa
      replace hR := hR.keepO K_52 (fun q_ h1 h2 => hRf q_ h1 (Or.inr h2))
      replace K0 := K0.trans K_52 (fun x hlt hx => (fun q_ h_ hl_ => (fun q_ h_ _ => Or.inr (Or.inr h_)) q_ ((files_subO hfs) q_ h_) hl_) x hx hlt)
      clear hm_53
      clear hrm_54
      refine RL.val (x_nilCheck rfl) ?_
      refine RL.val (x_fld (o' := 0) Tryz.underlying184 rfl ty74 rfl rfl rfl) ?_
      refine RL.st rfl <| St1.store (v := .slice (a_48) ((f.bytes ++ b).length) (c_49)) ty74 rfl rfl rfl (by simp [Value.cells, Value.oneCell']) hb (by simp) ?_
      intro w_60 hb_ K_61
      have hb' : Blk w_60 f.blk [.slice (a_48) ((f.bytes ++ b).length) (c_49), .int .i64 (((f.synced : Nat) : Int))] 184 := hb_
      clear hb_
      replace hB := hB.keep K_61 (by simp only [one]; omega)
      replace hM := hM.keepO K_61 (fun q_ hq_ eq_ => pr_42 (by simp only [one] at eq_; rw [← eq_]; exact hq_))
      replace hR := hR.keepO K_61 (fun q_ hq_ eq_ => (fun h_ => hRf _ h_ (Or.inl rfl)) (by simp only [one] at eq_; rw [← eq_]; exact hq_))
      replace ho_51 := ho_51.keepO K_61 (fun q_ hq_ eq_ => pr_57 (by simp only [one] at eq_; rw [← eq_]; exact hq_))
      replace K0 := K0.trans K_61 (fun x hlt hx => by simp only [one] at hx; subst hx; exact if_43 hlt)
      replace hb := hb'
      clear hb'
      refine RL.nil ?_
      refine Run.seq ?_
      refine Run.region ?_
      refine RL.val (x_assignI rfl) ?_
      refine RL.nil ?_
      refine Run.ret1 (v := .int .i64 (0)) Tryz.func69 rfl rfl ?_
      have hF' : FilesAt w_60 (l1 ++ (⟨f.name, f.blk, a_48, c_49, f.bytes ++ b, f.synced⟩ : FileS) :: l2) := FilesAt.close ⟨hb, ho_51, pr_57⟩ hR (fun q_ h1 h2 => h2.elim (fun e_ => (fun h_ => hRf _ h_ (Or.inl rfl)) (show filesS (l1 ++ l2) f.blk from (show q_ = f.blk from e_) ▸ h1)) (fun y_ => (fun q_ h1 h2 => pr_58 q_ h2 h1) q_ h1 y_))
      have pr_62 : ¬ filesS (l1 ++ (⟨f.name, f.blk, a_48, c_49, f.bytes ++ b, f.synced⟩ : FileS) :: l2) d := fun x_ => (files_case' _ x_).elim (fun e_ => absurd e_ (by omega)) (fun y_ => y_.elim pr_55 (fun y_ => pr_46 y_))
      have pr_63 : ∀ q_, filesS (l1 ++ (⟨f.name, f.blk, a_48, c_49, f.bytes ++ b, f.synced⟩ : FileS) :: l2) q_ → ¬ one m q_ := fun q_ x_ z_ => (files_case' _ x_).elim (fun e_ => pr_42 (show one m f.blk from e_ ▸ z_)) (fun y_ => y_.elim (fun y_ => pr_56 q_ y_ z_) (fun y_ => (fun y_ => pr_47 q_ y_ z_) y_))
      have pg_64 : ∀ q_, filesS (l1 ++ (⟨f.name, f.blk, a_48, c_49, f.bytes ++ b, f.synced⟩ : FileS) :: l2) q_ → q_ < w.heap.size → (diskS d m fs) q_ := fun q_ x_ hl_ => (files_case' _ x_).elim (fun e_ => e_ ▸ if_43 (e_ ▸ hl_)) (fun y_ => y_.elim (fun y_ => pg_59 q_ y_ hl_) (fun y_ => (fun y_ => (fun q_ h_ hl_ => (fun q_ h_ _ => Or.inr (Or.inr h_)) q_ ((files_subR hfs) q_ h_) hl_) q_ y_ hl_) y_))
      have hme : MapAt w_60 m (ents (l1 ++ (⟨f.name, f.blk, a_48, c_49, f.bytes ++ b, f.synced⟩ : FileS) :: l2)) := by first | exact hM | (have h_ := hM; rw [ents_fs hfs] at h_; exact h_)
      exact ⟨_, rfl, (l1 ++ (⟨f.name, f.blk, a_48, c_49, f.bytes ++ b, f.synced⟩ : FileS) :: l2), by rw [he0], ⟨hB, hme, hF', hmd, pr_62, pr_63, by rw [app_in he0 hnd hfs hfn _ _]; exact hok.app⟩, app_in he0 hnd hfs hfn _ _, disk_moved pg_64, K0⟩

set_option maxRecDepth 100000 in
set_option maxHeartbeats 4000000 in
theorem remove_ (d m : Nat) (room : Int) (fs : List FileS) (name : ByteArray) (w : World) (hD : DiskO w d m room fs) (hs : name.size ≤ 4294967295) :
    Calls Tryz.prog 85 #[.pointer (some ⟨d, 0, none⟩), .string (name)] w (Ret (fun v w' => ∃ fs', v = .int .i64 (lookE (fs.map FileS.p) name) ∧ DiskO w' d m room fs' ∧ fs'.map FileS.p = remL (fs.map FileS.p) name ∧ (∀ q, diskS d m fs' q → q < w.heap.size → diskS d m fs q) ∧ Keeps (diskS d m fs) w w')) := by
  obtain ⟨hB, hM, hF, hmd, hfd, hfm, hok⟩ := hD
  have hnd := DiskO.names hok
  have hlens := PLOk.lens hok
  have hroom := hok.room
  have hused := hok.used
  have hcnt := hok.len
  rw [List.length_map] at hcnt
  refine calls_run (n := 21) Tryz.func85 rfl rfl rfl ?_
  refine Run.seq ?_
  refine Run.region ?_
  refine RL.val (x_assignI rfl) ?_
  refine RL.nil ?_
  refine Run.seq ?_
  refine Run.region ?_
  refine RL.val (x_moveP rfl) ?_
  refine RL.val (x_moveS rfl) ?_
  refine RL.st rfl <| St1.call (vals := [.pointer (some ⟨d, 0, none⟩), .string (name)]) en117 rfl (look_ d m room fs name _ (⟨hB, hM, hF, hmd, hfd, hfm, hok⟩ : DiskO _ d m room fs) (by omega)) ?_
  rintro _ w_1 ⟨K_2, (⟨hmay, rfl⟩ | ⟨hmay, hno, rfl⟩ | ⟨hmay, l1, f, l2, hfs, hfn, rfl⟩)⟩
  · replace hB := hB.ext K_2
    replace hM := hM.ext K_2
    replace hF := hF.ext K_2
    have K0 := (K_2 : Ext w _).to (S := (diskS d m fs))
    refine RL.val (x_moveT rfl) ?_
    refine RL.val (x_extract rfl rfl) ?_
    refine RL.val (x_extract rfl rfl) ?_
    refine RL.val (x_assignP rfl) ?_
    refine RL.val (x_assignI rfl) ?_
    refine RL.nil ?_
    refine Run.seq ?_
    refine Run.seq ?_
    refine Run.region ?_
    refine RL.val (x_moveI rfl) ?_
    refine RL.val (litF (x_eqI rfl rfl) (by decide)) ?_
    refine RL.nil ?_
    refine Run.condF rfl ?_
    refine Run.skip ?_
    refine Run.seq ?_
    refine Run.region ?_
    refine RL.val (x_moveI rfl) ?_
    refine RL.val (x_assignI rfl) ?_
    refine RL.nil ?_
    refine Run.ret1 (v := .int .i64 (6)) Tryz.func85 rfl rfl ?_
    exact ⟨_, rfl, fs, by rw [lookE_bad hmay], ⟨hB, hM, hF, hmd, hfd, hfm, hok⟩, by rw [remL_none (noP (badP hok hmay))], fun _ h _ => h, K0⟩
  · replace hB := hB.ext K_2
    replace hM := hM.ext K_2
    replace hF := hF.ext K_2
    have K0 := (K_2 : Ext w _).to (S := (diskS d m fs))
    refine RL.val (x_moveT rfl) ?_
    refine RL.val (x_extract rfl rfl) ?_
    refine RL.val (x_extract rfl rfl) ?_
    refine RL.val (x_assignP rfl) ?_
    refine RL.val (x_assignI rfl) ?_
    refine RL.nil ?_
    refine Run.seq ?_
    refine Run.seq ?_
    refine Run.region ?_
    refine RL.val (x_moveI rfl) ?_
    refine RL.val (litF (x_eqI rfl rfl) (by decide)) ?_
    refine RL.nil ?_
    refine Run.condF rfl ?_
    refine Run.skip ?_
    refine Run.seq ?_
    refine Run.region ?_
    refine RL.val (x_moveI rfl) ?_
    refine RL.val (x_assignI rfl) ?_
    refine RL.nil ?_
    refine Run.ret1 (v := .int .i64 (20)) Tryz.func85 rfl rfl ?_
    exact ⟨_, rfl, fs, by rw [lookE_no hmay hno], ⟨hB, hM, hF, hmd, hfd, hfm, hok⟩, by rw [remL_none (noP hno)], fun _ h _ => h, K0⟩
  · replace hB := hB.ext K_2
    replace hM := hM.ext K_2
    replace hF := hF.ext K_2
    have K0 := (K_2 : Ext w _).to (S := (diskS d m fs))
    have hfl := hlens f (mem_mid hfs)
    refine RL.val (x_moveT rfl) ?_
    refine RL.val (x_extract rfl rfl) ?_
    refine RL.val (x_extract rfl rfl) ?_
    refine RL.val (x_assignP rfl) ?_
    refine RL.val (x_assignI rfl) ?_
    refine RL.nil ?_
    refine Run.seq ?_
    refine Run.seq ?_
    refine Run.region ?_
    refine RL.val (x_moveI rfl) ?_
    refine RL.val (litT (x_eqI rfl rfl) (by decide)) ?_
    refine RL.nil ?_
    refine Run.condT rfl ?_
    refine Run.region ?_
    refine RL.val (x_moveP rfl) ?_
    refine RL.val (x_nilCheck rfl) ?_
    refine RL.val (x_fld (o' := 0) Tryz.underlying152 rfl ty150 rfl rfl rfl) ?_
    refine RL.val (x_ld (v := .map (some m)) ty150 rfl rfl (hB.cl.field (i := 0) rfl)) ?_
    refine RL.val (x_moveS rfl) ?_
    refine RL.st rfl <| St1.deleteMap Tryz.underlying150 Tryz.underlying9 rfl rfl rfl hM ?_
    intro w_3 hM_4 K_5
    replace hM_4 : MapAt w_3 m (ents (l1 ++ l2)) := (by have h_ := hM_4; rw [ents_del' hnd hfs hfn] at h_; exact h_)
    replace hB := hB.keep K_5 hmd
    replace hF := hF.keepO K_5 hfm
    replace K0 := K0.trans K_5 (fun x hlt hx => (fun q_ h_ _ => Or.inr (Or.inl h_)) x hx hlt)
    replace hM := hM_4
    clear hM_4
    refine RL.nil ?_
    refine Run.seq ?_
    refine Run.region ?_
    refine RL.val (x_moveI rfl) ?_
    refine RL.val (x_assignI rfl) ?_
    refine RL.nil ?_
    refine Run.ret1 (v := .int .i64 (0)) Tryz.func85 rfl rfl ?_
    have hF' : FilesAt w_3 (l1 ++ l2) := (hF.openE hfs).2.1
    have pr_6 : ¬ filesS (l1 ++ l2) d := fun h_ => hfd ((files_subR hfs) _ h_)
    have pr_7 : ∀ q_, filesS (l1 ++ l2) q_ → ¬ one m q_ := fun q_ h_ => hfm q_ ((files_subR hfs) q_ h_)
    have hme : MapAt w_3 m (ents (l1 ++ l2)) := by first | exact hM | (have h_ := hM; rw [ents_fs hfs] at h_; exact h_)
    exact ⟨_, rfl, (l1 ++ l2), by rw [lookE_in hmay hfs hfn], ⟨hB, hme, hF', hmd, pr_6, pr_7, by rw [(rem_in hnd hfs hfn).symm]; exact hok.rem⟩, (rem_in hnd hfs hfn).symm, disk_moved (fun q_ h_ hl_ => (fun q_ h_ _ => Or.inr (Or.inr h_)) q_ ((files_subR hfs) q_ h_) hl_), K0⟩

set_option maxRecDepth 100000 in
set_option maxHeartbeats 4000000 in
theorem rename_ (d m : Nat) (room : Int) (fs : List FileS) (name name2 : ByteArray) (w : World) (hD : DiskO w d m room fs) (hs : name.size ≤ 4294967295) (hs2 : name2.size ≤ 4294967295) :
    Calls Tryz.prog 126 #[.pointer (some ⟨d, 0, none⟩), .string (name), .string (name2)] w (Ret (fun v w' => ∃ fs', v = .int .i64 (renE (fs.map FileS.p) name name2) ∧ DiskO w' d m room fs' ∧ (fs'.map FileS.p).Perm (renL (fs.map FileS.p) name name2) ∧ (∀ q, diskS d m fs' q → q < w.heap.size → diskS d m fs q) ∧ Keeps (diskS d m fs) w w')) := by
  obtain ⟨hB, hM, hF, hmd, hfd, hfm, hok⟩ := hD
  have hnd := DiskO.names hok
  have hlens := PLOk.lens hok
  have hroom := hok.room
  have hused := hok.used
  have hcnt := hok.len
  rw [List.length_map] at hcnt
  refine calls_run (n := 39) Tryz.func126 rfl rfl rfl ?_
  refine Run.seq ?_
  refine Run.region ?_
  refine RL.val (x_assignI rfl) ?_
  refine RL.nil ?_
  refine Run.seq ?_
  refine Run.region ?_
  refine RL.val (x_moveP rfl) ?_
  refine RL.val (x_moveS rfl) ?_
  refine RL.st rfl <| St1.call (vals := [.pointer (some ⟨d, 0, none⟩), .string (name)]) en117 rfl (look_ d m room fs name _ (⟨hB, hM, hF, hmd, hfd, hfm, hok⟩ : DiskO _ d m room fs) (by omega)) ?_
  rintro _ w_1 ⟨K_2, (⟨hmay, rfl⟩ | ⟨hmay, hno, rfl⟩ | ⟨hmay, l1, f, l2, hfs, hfn, rfl⟩)⟩
  · replace hB := hB.ext K_2
    replace hM := hM.ext K_2
    replace hF := hF.ext K_2
    have K0 := (K_2 : Ext w _).to (S := (diskS d m fs))
    refine RL.val (x_moveT rfl) ?_
    refine RL.val (x_extract rfl rfl) ?_
    refine RL.val (x_extract rfl rfl) ?_
    refine RL.val (x_assignP rfl) ?_
    refine RL.val (x_assignI rfl) ?_
    refine RL.nil ?_
    refine Run.seq ?_
    refine Run.seq ?_
    refine Run.region ?_
    refine RL.val (x_moveI rfl) ?_
    refine RL.val (litF (x_eqI rfl rfl) (by decide)) ?_
    refine RL.val (x_moveB rfl) ?_
    refine RL.gst (wantedF1 rfl rfl rfl rfl) <| St1.val (x_moveI rfl) ?_
    refine RL.gst (wantedF1 rfl rfl rfl rfl) <| St1.val (litT (x_eqI rfl rfl) (by decide)) ?_
    refine RL.val (x_orF rfl rfl rfl) ?_
    refine RL.nil ?_
    refine Run.condT rfl ?_
    refine Run.seq ?_
    refine Run.region ?_
    refine RL.val (x_moveI rfl) ?_
    refine RL.val (x_assignI rfl) ?_
    refine RL.nil ?_
    refine Run.ret1 (v := .int .i64 (6)) Tryz.func126 rfl rfl ?_
    exact ⟨_, rfl, fs, by rw [renE_bad hmay], ⟨hB, hM, hF, hmd, hfd, hfm, hok⟩, by rw [renL_no (by rw [renE_bad hmay]; decide)], fun _ h _ => h, K0⟩
  · replace hB := hB.ext K_2
    replace hM := hM.ext K_2
    replace hF := hF.ext K_2
    have K0 := (K_2 : Ext w _).to (S := (diskS d m fs))
    refine RL.val (x_moveT rfl) ?_
    refine RL.val (x_extract rfl rfl) ?_
    refine RL.val (x_extract rfl rfl) ?_
    refine RL.val (x_assignP rfl) ?_
    refine RL.val (x_assignI rfl) ?_
    refine RL.nil ?_
    refine Run.seq ?_
    refine Run.seq ?_
    refine Run.region ?_
    refine RL.val (x_moveI rfl) ?_
    refine RL.val (litF (x_eqI rfl rfl) (by decide)) ?_
    refine RL.val (x_moveB rfl) ?_
    refine RL.gst (wantedF1 rfl rfl rfl rfl) <| St1.val (x_moveI rfl) ?_
    refine RL.gst (wantedF1 rfl rfl rfl rfl) <| St1.val (litF (x_eqI rfl rfl) (by decide)) ?_
    refine RL.val (x_orF rfl rfl rfl) ?_
    refine RL.nil ?_
    refine Run.condF rfl ?_
    refine Run.skip ?_
    refine Run.seq ?_
    refine Run.seq ?_
    refine Run.region ?_
    refine RL.val (x_moveS rfl) ?_
    refine RL.st rfl <| St1.call (vals := [.string (name2)]) en167 rfl (may_ name2 _ (by omega)) ?_
    rintro _ w_3 ⟨rfl, K_4⟩
    replace hB := hB.ext K_4
    replace hM := hM.ext K_4
    replace hF := hF.ext K_4
    replace K0 := K0.ext K_4
    refine RL.val (x_not rfl) ?_
    refine RL.nil ?_
    refine Run.cond rfl (fun hc24 => ?_) (fun hc24 => ?_)
    · try simp only [br] at hc24
      refine Run.seq ?_
      refine Run.region ?_
      refine RL.val (x_assignI rfl) ?_
      refine RL.nil ?_
      refine Run.ret1 (v := .int .i64 (6)) Tryz.func126 rfl rfl ?_
      exact ⟨_, rfl, fs, by rw [renE_bad2 hmay (by simpa using hc24)], ⟨hB, hM, hF, hmd, hfd, hfm, hok⟩, by rw [renL_no (by rw [renE_bad2 hmay (by simpa using hc24)]; decide)], fun _ h _ => h, K0⟩
    · try simp only [br] at hc24
      refine Run.skip ?_
      refine Run.seq ?_
      refine Run.seq ?_
      refine Run.region ?_
      refine RL.val (x_moveI rfl) ?_
      refine RL.val (litT (x_neI rfl rfl) (by decide)) ?_
      refine RL.nil ?_
      refine Run.condT rfl ?_
      refine Run.seq ?_
      refine Run.region ?_
      refine RL.val (x_moveI rfl) ?_
      refine RL.val (x_assignI rfl) ?_
      refine RL.nil ?_
      refine Run.ret1 (v := .int .i64 (20)) Tryz.func126 rfl rfl ?_
      exact ⟨_, rfl, fs, by rw [renE_no hmay (by simpa using hc24) hno], ⟨hB, hM, hF, hmd, hfd, hfm, hok⟩, by rw [renL_no (by rw [renE_no hmay (by simpa using hc24) hno]; decide)], fun _ h _ => h, K0⟩
  · replace hB := hB.ext K_2
    replace hM := hM.ext K_2
    replace hF := hF.ext K_2
    have K0 := (K_2 : Ext w _).to (S := (diskS d m fs))
    have hfl := hlens f (mem_mid hfs)
    refine RL.val (x_moveT rfl) ?_
    refine RL.val (x_extract rfl rfl) ?_
    refine RL.val (x_extract rfl rfl) ?_
    refine RL.val (x_assignP rfl) ?_
    refine RL.val (x_assignI rfl) ?_
    refine RL.nil ?_
    refine Run.seq ?_
    refine Run.seq ?_
    refine Run.region ?_
    refine RL.val (x_moveI rfl) ?_
    refine RL.val (litF (x_eqI rfl rfl) (by decide)) ?_
    refine RL.val (x_moveB rfl) ?_
    refine RL.gst (wantedF1 rfl rfl rfl rfl) <| St1.val (x_moveI rfl) ?_
    refine RL.gst (wantedF1 rfl rfl rfl rfl) <| St1.val (litF (x_eqI rfl rfl) (by decide)) ?_
    refine RL.val (x_orF rfl rfl rfl) ?_
    refine RL.nil ?_
    refine Run.condF rfl ?_
    refine Run.skip ?_
    refine Run.seq ?_
    refine Run.seq ?_
    refine Run.region ?_
    refine RL.val (x_moveS rfl) ?_
    refine RL.st rfl <| St1.call (vals := [.string (name2)]) en167 rfl (may_ name2 _ (by omega)) ?_
    rintro _ w_5 ⟨rfl, K_6⟩
    replace hB := hB.ext K_6
    replace hM := hM.ext K_6
    replace hF := hF.ext K_6
    replace K0 := K0.ext K_6
    refine RL.val (x_not rfl) ?_
    refine RL.nil ?_
    refine Run.cond rfl (fun hc24 => ?_) (fun hc24 => ?_)
    · try simp only [br] at hc24
      refine Run.seq ?_
      refine Run.region ?_
      refine RL.val (x_assignI rfl) ?_
      refine RL.nil ?_
      refine Run.ret1 (v := .int .i64 (6)) Tryz.func126 rfl rfl ?_
      exact ⟨_, rfl, fs, by rw [renE_bad2 hmay (by simpa using hc24)], ⟨hB, hM, hF, hmd, hfd, hfm, hok⟩, by rw [renL_no (by rw [renE_bad2 hmay (by simpa using hc24)]; decide)], fun _ h _ => h, K0⟩
    · try simp only [br] at hc24
      refine Run.skip ?_
      refine Run.seq ?_
      refine Run.seq ?_
      refine Run.region ?_
      refine RL.val (x_moveI rfl) ?_
      refine RL.val (litF (x_neI rfl rfl) (by decide)) ?_
      refine RL.nil ?_
      refine Run.condF rfl ?_
      refine Run.skip ?_
      refine Run.seq ?_
      refine Run.region ?_
      refine RL.val (x_moveP rfl) ?_
      refine RL.val (x_nilCheck rfl) ?_
      refine RL.val (x_fld (o' := 0) Tryz.underlying152 rfl ty150 rfl rfl rfl) ?_
      refine RL.val (x_ld (v := .map (some m)) ty150 rfl rfl (hB.cl.field (i := 0) rfl)) ?_
      refine RL.val (x_moveS rfl) ?_
      refine RL.st rfl <| St1.deleteMap Tryz.underlying150 Tryz.underlying9 rfl rfl rfl hM ?_
      intro w_7 hM_8 K_9
      replace hM_8 : MapAt w_7 m (ents (l1 ++ l2)) := (by have h_ := hM_8; rw [ents_del' hnd hfs hfn] at h_; exact h_)
      replace hB := hB.keep K_9 hmd
      replace hF := hF.keepO K_9 hfm
      replace K0 := K0.trans K_9 (fun x hlt hx => (fun q_ h_ _ => Or.inr (Or.inl h_)) x hx hlt)
      replace hM := hM_8
      clear hM_8
      refine RL.nil ?_
      refine Run.seq ?_
      refine Run.region ?_
      refine RL.val (x_moveP rfl) ?_
      refine RL.val (x_nilCheck rfl) ?_
      refine RL.val (x_fld (o' := 0) Tryz.underlying152 rfl ty150 rfl rfl rfl) ?_
      refine RL.val (x_ld (v := .map (some m)) ty150 rfl rfl (hB.cl.field (i := 0) rfl)) ?_
      refine RL.val (x_moveS rfl) ?_
      refine RL.val (x_moveP rfl) ?_
      refine RL.st rfl <| St1.mapUpdate (v := .pointer (some ⟨f.blk, 0, none⟩)) Tryz.underlying150 Tryz.underlying9 rfl rfl rfl rfl hM ?_
      intro w_10 hM_11 K_12
      replace hM_11 : MapAt w_10 m (ents (renFs (l1 ++ l2) ⟨name2, f.blk, f.a, f.cap, f.bytes, f.synced⟩)) := ((renFs_put (g := ⟨name2, f.blk, f.a, f.cap, f.bytes, f.synced⟩) (sub_nodup hnd hfs)) ▸ hM_11)
      replace hB := hB.keep K_12 hmd
      replace hF := hF.keepO K_12 hfm
      replace K0 := K0.trans K_12 (fun x hlt hx => (fun q_ h_ _ => Or.inr (Or.inl h_)) x hx hlt)
      replace hM := hM_11
      clear hM_11
      refine RL.nil ?_
      refine Run.seq ?_
      refine Run.region ?_
      refine RL.val (x_assignI rfl) ?_
      refine RL.nil ?_
      refine Run.ret1 (v := .int .i64 (0)) Tryz.func126 rfl rfl ?_
      have hF' : FilesAt w_10 (renFs (l1 ++ l2) ⟨name2, f.blk, f.a, f.cap, f.bytes, f.synced⟩) := renFs_at (hF.openE hfs)
      have pr_13 : ¬ filesS (renFs (l1 ++ l2) ⟨name2, f.blk, f.a, f.cap, f.bytes, f.synced⟩) d := fun h_ => hfd ((renFs_sub hfs) _ h_)
      have pr_14 : ∀ q_, filesS (renFs (l1 ++ l2) ⟨name2, f.blk, f.a, f.cap, f.bytes, f.synced⟩) q_ → ¬ one m q_ := fun q_ h_ => hfm q_ ((renFs_sub hfs) q_ h_)
      have hpm := ren_in hok hnd hfs hfn hmay (by simpa using hc24)
      exact ⟨_, rfl, _, by rw [renE_in hmay (by simpa using hc24) hfs hfn], ⟨hB, hM, hF', hmd, pr_13, pr_14, hpm.2⟩, hpm.1, disk_moved (fun q_ h_ hl_ => (fun q_ h_ _ => Or.inr (Or.inr h_)) q_ ((renFs_sub hfs) q_ h_) hl_), K0⟩

set_option maxRecDepth 100000 in
set_option maxHeartbeats 4000000 in
theorem new_ (room : Int) (w : World) :
    Calls Tryz.prog 48 #[.int .i64 (room)] w (Ret (fun v w' => (¬ (0 ≤ room ∧ room ≤ 16777216) ∧ v = .tuple #[.pointer none, .int .i64 1] ∧ Ext w w') ∨ ((0 ≤ room ∧ room ≤ 16777216) ∧ ∃ d m, v = .tuple #[.pointer (some ⟨d, 0, none⟩), .int .i64 0] ∧ DiskO w' d m room [] ∧ (∀ q, diskS d m [] q → w.heap.size ≤ q) ∧ Ext w w'))) := by
  refine calls_run (n := 14) Tryz.func48 rfl rfl rfl ?_
  refine Run.seq ?_
  refine Run.region ?_
  refine RL.val (x_assignP rfl) ?_
  refine RL.val (x_assignI rfl) ?_
  refine RL.nil ?_
  refine Run.seq ?_
  refine Run.seq ?_
  refine Run.region ?_
  refine RL.val (x_moveI rfl) ?_
  refine RL.val (x_ltI rfl rfl) ?_
  refine RL.val (x_moveB rfl) ?_
  refine RL.gval (wantedF rfl rfl rfl rfl) (fun hg => (x_moveI rfl)) ?_
  refine RL.gval (wantedF rfl rfl rfl rfl) (fun hg => (x_gtI (gvr hg) rfl)) ?_
  refine RL.val (x_or rfl rfl rfl) ?_
  refine RL.nil ?_
  refine Run.cond rfl (fun hc9 => ?_) (fun hc9 => ?_)
  · try simp only [br] at hc9
    refine Run.seq ?_
    refine Run.region ?_
    refine RL.val (x_assignP rfl) ?_
    refine RL.val (x_assignI rfl) ?_
    refine RL.nil ?_
    refine Run.ret2 (v := .pointer none) (x := .int .i64 (1)) Tryz.func48 rfl rfl rfl ?_
    exact ⟨_, rfl, .inl ⟨by omega, rfl, Keeps.refl _ w⟩⟩
  · try simp only [br] at hc9
    refine Run.skip ?_
    refine Run.seq ?_
    refine Run.region ?_
    refine RL.st rfl <| St1.makeMap (κ := ByteArray) ?_
    intro m_1 w_2 hl_3 hM_4 K_5
    have pg_6 : ∀ q_, one m_1 q_ → w.heap.size ≤ q_ := fun q_ h => Nat.le_trans (Nat.le_refl _) ((ge_one hl_3) q_ h)
    clear hl_3
    have K0 := (K_5 : Ext w _)
    refine RL.val (x_moveI rfl) ?_
    refine RL.val (x_build (cells := #[.map (some m_1), .int .i64 (room)]) (by kernel_rfl)) ?_
    refine RL.st rfl <| St1.box (v := .agg #[.map (some m_1), .int .i64 (room)]) rfl ?_
    intro b_7 w_8 hl_11 hb_10 K_9
    replace hb_10 : Blk w_8 b_7 [.map (some m_1), .int .i64 (room)] 152 := hb_10
    have pr_12 : ¬ one m_1 b_7 := fun h => absurd (hM_4.own_lt _ h) (by omega)
    have : w.heap.size ≤ b_7 := Nat.le_trans K0.size hl_11
    clear hl_11
    replace hM_4 := hM_4.ext K_9
    replace K0 := K0.ext K_9
    refine RL.val (x_assignP rfl) ?_
    refine RL.val (x_assignI rfl) ?_
    refine RL.nil ?_
    refine Run.ret2 (v := .pointer (some ⟨b_7, 0, none⟩)) (x := .int .i64 (0)) Tryz.func48 rfl rfl rfl ?_
    exact ⟨_, rfl, .inr ⟨by omega, b_7, m_1, rfl, ⟨hb_10, hM_4, FilesAt.nil _, pr_12, fun ⟨_, h, _⟩ => absurd h (by simp), fun _ ⟨_, h, _⟩ => absurd h (by simp), PLOk.empty (by omega)⟩, fun q h => h.elim (fun e => by rw [e]; omega) (fun h => h.elim (fun e => pg_6 q e) (fun ⟨_, h, _⟩ => absurd h (by simp))), K0⟩⟩

end Go.Proofs.YtnphndfbgdkgbaaGreatDoor
