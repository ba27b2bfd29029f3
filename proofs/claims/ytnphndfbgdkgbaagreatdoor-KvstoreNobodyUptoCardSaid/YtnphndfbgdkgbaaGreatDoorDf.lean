/-
  Layer 2's walks, fifth part.
-/
import Derived.Test.YtnphndfbgdkgbaaGreatDoorRows
import Derived.Test.YtnphndfbgdkgbaaGreatDoorDe
import Derived.Test.YtnphndfbgdkgbaaGreatDoorStr
namespace Go.Proofs.YtnphndfbgdkgbaaGreatDoor
attribute [local irreducible] St1 RL RA RT RT1 Run

theorem erase_perm {α : Type} {l : List α} {j : Nat} {f : α} (h : l[j]? = some f) : (f :: l.eraseIdx j).Perm l := by
  induction l generalizing j with
  | nil => simp at h
  | cons x l ih =>
    cases j with
    | zero => simp at h; subst h; exact List.Perm.refl _
    | succ j => simp at h; rw [List.eraseIdx_cons_succ]; exact (List.Perm.swap x f _).trans ((ih h).cons x)
theorem copy_perm {gs rs fs : List FileS} {j : Nat} {f : FileS} (h : ((gs ++ rs).map FileS.p).Perm (fs.map FileS.p)) (hf : rs[j]? = some f) (f' : FileS) (e : f'.p = f.p) : (((gs ++ [f']) ++ rs.eraseIdx j).map FileS.p).Perm (fs.map FileS.p) := by
  refine List.Perm.trans ?_ h
  simp only [List.append_assoc, List.map_append, List.map_cons, List.map_nil, e]
  refine List.Perm.append_left _ ?_
  rw [List.singleton_append, ← List.map_cons]
  exact (erase_perm hf).map _
theorem copy_no {gs rs fs : List FileS} {j : Nat} {f : FileS} (hn : (fs.map (·.name)).Nodup) (h : ((gs ++ rs).map FileS.p).Perm (fs.map FileS.p)) (hf : rs[j]? = some f) : ∀ x ∈ gs, x.name ≠ f.name := by
  have h1 : (((gs ++ rs).map FileS.p).map (·.name)).Nodup := (h.map _).nodup_iff.2 (by rw [pl_keys]; exact hn)
  rw [pl_keys, List.map_append] at h1
  intro x hx e
  exact (List.nodup_append.1 h1).2.2 _ (List.mem_map.2 ⟨x, hx, rfl⟩) _ (List.mem_map.2 ⟨f, List.mem_of_getElem? hf, rfl⟩) e




end Go.Proofs.YtnphndfbgdkgbaaGreatDoor
