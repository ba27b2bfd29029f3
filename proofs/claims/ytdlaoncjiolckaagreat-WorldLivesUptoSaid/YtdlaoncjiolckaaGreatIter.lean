/-
  A map's entry that was told last is deleted: the iterator goes on.
-/
import Derived.Test.YtdlaoncjiolckaaGreatMap
namespace Go.Proofs.YtdlaoncjiolckaaGreat
attribute [local irreducible] St1 RL RA RT Run
theorem filter_erase {α : Type} {p : α → Bool} : ∀ {L : List α} {j : Nat} {x : α}, L[j]? = some x → p x = false → (L.eraseIdx j).filter p = L.filter p
  | [], _, _, h, _ => by simp at h
  | y :: L, 0, x, h, hp => by
    simp only [List.getElem?_cons_zero, Option.some.injEq] at h
    subst h
    rw [List.eraseIdx_cons_zero, List.filter_cons, if_neg (by rw [hp]; decide)]
  | y :: L, j + 1, x, h, hp => by
    simp only [List.getElem?_cons_succ] at h
    rw [List.eraseIdx_cons_succ, List.filter_cons, List.filter_cons, filter_erase h hp]
section
variable {P : Program} {w : World} {m r : Nat} {t k e : TypeId} {a : Int} {v : Value} {ps rest : List (Int × Value)}
theorem run_deleteI (ht : P.underlying t = some (.map k e)) (hk : P.underlying k = some (.int .i64)) (h : MapAt w m ps) (hi : IterAt w r m rest (some (a, v))) {ty t2 : TypeId} :
    ∃ w', (Builtin.delete_ #[t, t2] ty #[.map (some m), .int .i64 a]).run P w = .ok (.tuple #[]) w' ∧ MapAt w' m (mdel ps a) ∧ IterAt w' r m rest none ∧ Keeps (one m) w w' := by
  have hne := hi.ne
  obtain ⟨w', h1, h2, h3⟩ := run_delete (κ := Int) (a := a) (ty := ty) (t2 := t2) ht hk rfl h
  have hlt := h.lt
  have h0 := h
  obtain ⟨⟨es, c, g1, g2, g3, g4⟩, g5⟩ := h
  have hf := MKey.find (κ := Int) hk rfl a _ _ w g2
  have hc := MKey.check (κ := Int) hk rfl a es.isEmpty 9998 w
  obtain ⟨es', c', si, se, c0, i1, i2, i3, i4, i5, i6, i7, i8⟩ := hi
  rw [g1] at i1
  obtain ⟨rfl, rfl⟩ : es = es' ∧ c = c' := by injection i1 with i1; injection i1 with q1 q2; exact ⟨q1, q2⟩
  obtain ⟨-, b, x, hb, hx, hxe⟩ := i8 _ rfl
  simp only [Prod.mk.injEq] at hxe
  cases hm : mfind a ps 0 with
  | none =>
    rw [hm] at hf
    have e : (Builtin.delete_ #[t, t2] ty #[.map (some m), MKey.enc a]).run P w = .ok (.tuple #[]) { w with heap := w.heap.setIfInBounds m (.map es c) } := by
      simp [Builtin.delete_, run_underlying ht, MapKept.run_getObj_map g1, hc, hf, MapKept.run_setObj_map _ g1, Result.andThen]
    rw [e] at h1
    injection h1 with _ h1
    subst h1
    refine ⟨_, e, h2, ⟨es, c, si, se, c0, by simp only [Array.getElem?_setIfInBounds, if_true, hlt], ?_, i3, i4, i5, i6, i7, fun p hp => by cases hp⟩, h3⟩
    simp only [Array.getElem?_setIfInBounds]
    rw [if_neg (fun q => hne q.symm)]; exact i2
  | some q =>
    obtain ⟨i, u⟩ := q
    rw [hm] at hf
    have e : (Builtin.delete_ #[t, t2] ty #[.map (some m), MKey.enc a]).run P w = .ok (.tuple #[]) { w with heap := w.heap.setIfInBounds m (.map (es.eraseIdxIfInBounds i) c) } := by
      simp [Builtin.delete_, run_underlying ht, MapKept.run_getObj_map g1, hc, hf, MapKept.run_setObj_map _ g1, Result.andThen]
    rw [e] at h1
    injection h1 with _ h1
    subst h1
    obtain ⟨j, hj, hp⟩ := mfind_some hm
    simp only [Nat.zero_add] at hj
    subst hj
    have hl : (es.eraseIdxIfInBounds i).toList = es.toList.eraseIdx i := by
      rw [Array.eraseIdxIfInBounds]
      split
      · rw [Array.toList_eraseIdx]
      · rename_i hi
        rw [List.eraseIdx_of_length_le (by simpa using hi)]
    -- the entry at i is the one that was told
    have hes : (es.toList.map (fun e => (e.key, e.val)))[i]? = some (.int .i64 a, u) := by rw [g2, List.getElem?_map, hp]; rfl
    rw [List.getElem?_map, Option.map_eq_some_iff] at hes
    obtain ⟨y, hy, hye⟩ := hes
    simp only [Prod.mk.injEq] at hye
    have hx1 := Array.find?_some hx
    have hx0 : x ∈ es.toList := by rw [← Array.find?_toList] at hx; exact List.mem_of_find?_eq_some hx
    obtain ⟨n, hn⟩ := List.getElem?_of_mem hx0
    have hpn : ∃ u', ps[n]? = some (a, u') := by
      have h9 := congrArg (fun l => l[n]?) g2
      simp only [List.getElem?_map, hn, Option.map_some] at h9
      cases hq : ps[n]? with
      | none => rw [hq] at h9; cases h9
      | some z =>
        rw [hq] at h9
        simp only [Option.map_some, Option.some.injEq, Prod.mk.injEq] at h9
        have h10 : Value.int .i64 z.1 = .int .i64 a := h9.1.symm.trans hxe.1
        injection h10 with _ h10
        exact ⟨z.2, by rw [← h10]⟩
    obtain ⟨u', hpn⟩ := hpn
    have hin : i = n := by
      obtain ⟨q1, q2⟩ := List.getElem?_eq_some_iff.1 hp
      obtain ⟨q3, q4⟩ := List.getElem?_eq_some_iff.1 hpn
      have hnd := List.pairwise_iff_getElem.1 g5
      rcases Nat.lt_trichotomy i n with hl2 | hl2 | hl2
      · exact (hnd i n (by rwa [List.length_map]) (by rwa [List.length_map]) hl2 (by rw [List.getElem_map, List.getElem_map, q2, q4])).elim
      · exact hl2
      · exact (hnd n i (by rwa [List.length_map]) (by rwa [List.length_map]) hl2 (by rw [List.getElem_map, List.getElem_map, q2, q4])).elim
    subst hin
    rw [hy] at hn
    obtain rfl := Option.some.inj hn
    have hbm : y.born ∈ se := by
      have : y.born = b := by simpa using hx1
      rw [this]
      exact Array.mem_of_back? hb
    refine ⟨_, e, h2, ⟨es.eraseIdxIfInBounds i, c, si, se, c0, by simp only [Array.getElem?_setIfInBounds, if_true, hlt], ?_, fun z hz => ?_, i4, i5, ?_, ?_, fun p hp => by cases hp⟩, h3⟩
    · simp only [Array.getElem?_setIfInBounds]
      rw [if_neg (fun q => hne q.symm)]; exact i2
    · rw [hl] at hz
      exact i3 z (List.mem_of_mem_eraseIdx hz)
    · rw [hl, map_eraseI]; exact i6.sublist (List.eraseIdx_sublist _ _)
    · have e3 : (leftOf (es.eraseIdxIfInBounds i) se).toList = (leftOf es se).toList := by
        unfold leftOf
        rw [Array.toList_filter, Array.toList_filter, hl, filter_erase hy (by simpa using hbm)]
      rw [e3]; exact i7
variable {n : Nat} {ρ : Regs} {dst : Option Nat} {pos : String} {af : Array Edge} {g : Option (Nat × Bool)} {f : FuncId} {R : Ending → World → Prop} {kk : List Item} {K : Regs → World → Prop} {ty : TypeId}
theorem St1.deleteI {x ix : Operand} {t2 : TypeId} (ht : P.underlying t = some (.map k e)) (hk : P.underlying k = some (.int .i64)) (hx : rd n ρ x = .map (some m)) (hi : rd n ρ ix = .int .i64 a) (h : MapAt w m ps) (hI : IterAt w r m rest (some (a, v)))
    (hK : ∀ w', MapAt w' m (mdel ps a) → IterAt w' r m rest none → Keeps (one m) w w' → K (updo ρ dst (.tuple #[])) w') : St1 P f n R kk ⟨dst, .call { callee := .builtin .delete, args := #[x, ix], argTypes := #[t, t2] }, ty, pos, af, none⟩ ρ w K := by
  obtain ⟨w', h1, h2, h3, h4⟩ := run_deleteI (ty := ty) (t2 := t2) ht hk h hI
  exact St1.val (w' := w') (by simp [execOp, resolve, invoke, builtin, hx, hi, h1]) (hK w' h2 h3 h4)
end
end Go.Proofs.YtdlaoncjiolckaaGreat
