/-
  SwimAnswers.
-/
import Derived.Test.YtagfdmdajmkddaaRows
import Derived.Test.YtagfdmdajmkddaaLh
namespace Go.Proofs.Ytagfdmdajmkddaa
attribute [local irreducible] St1 RL RA RT RT1 Run

open Sa
theorem next_good {T : Tab} (h0 : 0 ≤ nextT T) : ∃ k, T.l[(nextT T).toNat]? = some k ∧ k.peer.status ≠ 0 ∧ nextT T ≠ T.self ∧ T.pings.any (fun p => p.target == nextT T) = false := by
  have key : ∀ i, (0 ≤ (rf (nxt1 T) (-1, -1) i).1 → ∃ k, T.l[(rf (nxt1 T) (-1, -1) i).1.toNat]? = some k ∧ k.peer.status ≠ 0 ∧ (rf (nxt1 T) (-1, -1) i).1 ≠ T.self ∧ T.pings.any (fun p => p.target == (rf (nxt1 T) (-1, -1) i).1) = false) ∧
      (0 ≤ (rf (nxt1 T) (-1, -1) i).2 → ∃ k, T.l[(rf (nxt1 T) (-1, -1) i).2.toNat]? = some k ∧ k.peer.status ≠ 0 ∧ (rf (nxt1 T) (-1, -1) i).2 ≠ T.self ∧ T.pings.any (fun p => p.target == (rf (nxt1 T) (-1, -1) i).2) = false) := by
    intro i
    induction i with
    | zero => exact ⟨fun h => by simp [rf] at h, fun h => by simp [rf] at h⟩
    | succ i ih =>
      rw [rf_succ]
      generalize rf (nxt1 T) (-1, -1) i = s at *
      unfold nxt1
      split
      · exact ih
      · rename_i k hk
        split
        · exact ih
        · rename_i hc
          have hg : ∃ k, T.l[((i : Int)).toNat]? = some k ∧ k.peer.status ≠ 0 ∧ (i : Int) ≠ T.self ∧ T.pings.any (fun p => p.target == (i : Int)) = false := by
            refine ⟨k, by simpa using hk, fun e => hc (.inl (.inr e)), fun e => hc (.inl (.inl e)), ?_⟩
            cases ha : T.pings.any (fun p => p.target == (i : Int)) with
            | false => rfl
            | true => exact absurd (.inr ha) hc
          constructor
          · simp only
            split
            · exact fun _ => hg
            · exact ih.1
          · simp only
            split
            · exact fun _ => hg
            · exact ih.2
  obtain ⟨h1, h2⟩ := key 8
  unfold nextT at h0 ⊢
  simp only at h0 ⊢
  split at h0
  · rename_i hc; rw [if_pos hc]; exact h2 hc
  · rename_i hc; rw [if_neg hc]; exact h1 h0
def Alive (l : List KnownM) : Prop := ∀ k ∈ l, k.peer.status = 0 ∨ k.peer.status = 1
/-- nothing is open, nobody is suspected -/
structure Calm (n : Int) (T : Tab) : Prop where
  self : T.self = n
  pings : T.pings = []
  alive : Alive T.l
/-- in the middle of the answers -/
def Half (n : Int) (T0 : Tab) (out : List MsgC) (j : Nat) (T : Tab) : Prop := (j = 0 ∧ T = T0) ∨ (j = out.length ∧ Calm n T)



end Go.Proofs.Ytagfdmdajmkddaa
