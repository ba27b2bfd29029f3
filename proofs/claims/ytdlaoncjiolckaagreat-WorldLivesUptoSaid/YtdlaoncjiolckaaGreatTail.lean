/-
  Slices of one's own that begin anywhere in their block (queue[1:]), and append onto them.
-/
import Derived.Test.YtdlaoncjiolckaaGreatLoop
import Derived.ArgAppend
namespace Go.Proofs.YtdlaoncjiolckaaGreat
/-- a slice of one's own, at whatever place of its block -/
def OwnAt {α : Type} [Enc α] (w : World) (T : TypeId) (a : Option Addr) (cap : Nat) (xs : List α) : Prop :=
  (a = none ∧ cap = 0 ∧ xs = []) ∨ ∃ g off cur, a = some ⟨g, off, none⟩ ∧ w.heap[g]? = some (.cells cur T (0, 0)) ∧ xs.length ≤ cap ∧ cap ≤ maxLen ∧ off + cap * Enc.size α ≤ cur.size ∧ ∀ (j : Nat) v, (flat xs)[j]? = some v → cur[off + j]? = some v
section
variable {α : Type} [Enc α] {w w' : World} {T : TypeId} {a : Option Addr} {cap : Nat} {xs : List α} {S : Nat → Prop}
theorem OwnAt.nil (w : World) (T : TypeId) : OwnAt w T none 0 ([] : List α) := .inl ⟨rfl, rfl, rfl⟩
theorem OwnSl.at_ (h : OwnSl w T a cap xs) : OwnAt w T a cap xs := by
  rcases h.cases with ⟨h1, h2, h3⟩ | ⟨g, cur, h1, h2, h3, h4, h5, h6⟩
  · exact .inl ⟨h1, h2, h3⟩
  · refine .inr ⟨g, 0, cur, h1, h2, h3, h4, by rw [h5]; omega, fun j v hv => ?_⟩
    rw [← h6, List.getElem?_take] at hv
    split at hv
    · simpa using hv
    · cases hv
theorem OwnAt.sl (h : OwnAt w T a cap xs) : SlOf w a xs := by
  rcases h with ⟨_, _, rfl⟩ | ⟨g, off, cur, h1, h2, h3, h4, h5, h6⟩
  · exact .inl rfl
  · exact .inr ⟨g, off, h1, cur, T, (0, 0), h2, h6⟩
theorem OwnAt.le_cap (h : OwnAt w T a cap xs) : xs.length ≤ cap := by
  rcases h with ⟨_, _, rfl⟩ | ⟨g, off, cur, h1, h2, h3, _⟩
  · simp
  · exact h3
theorem OwnAt.own_lt (h : OwnAt w T a cap xs) : ∀ q, own a q → q < w.heap.size := fun q hq => by
  rcases h with ⟨rfl, _, _⟩ | ⟨g, off, cur, rfl, h2, _⟩
  · exact absurd hq (own_none q)
  · obtain ⟨x, hx, rfl⟩ := hq; simp only [Option.some.injEq] at hx; subst hx; exact lt_of_heap h2
theorem OwnAt.keepO (h : OwnAt w T a cap xs) (k : Keeps S w w') (hn : ∀ q, own a q → ¬ S q) : OwnAt w' T a cap xs := by
  rcases h with h | ⟨g, off, cur, h1, h2, h3⟩
  · exact .inl h
  · exact .inr ⟨g, off, cur, h1, (k.block g (lt_of_heap h2) (hn g ⟨_, h1, rfl⟩)).trans h2, h3⟩
theorem OwnAt.ext (h : OwnAt w T a cap xs) (k : Ext w w') : OwnAt w' T a cap xs := h.keepO k fun _ _ => id
theorem own_adv {m i size : Nat} : ∀ q, own (advA a m i size) q → own a q := fun q ⟨x, hx, e⟩ => by
  subst e; exact adv_sub (Q := own a) (own_sub a) x hx
/-- what is left of it from k on -/
theorem OwnAt.from_ (h : OwnAt w T a cap xs) (k : Nat) (hk : k ≤ xs.length) : OwnAt w T (advA a cap k (Enc.size α)) (cap - k) (xs.drop k) := by
  rcases h with ⟨rfl, rfl, rfl⟩ | ⟨g, off, cur, rfl, h2, h3, h4, h5, h6⟩
  · simp only [List.length_nil, Nat.le_zero] at hk; subst hk
    exact .inl ⟨by simp [advA], rfl, rfl⟩
  · have hd : ∀ (j : Nat) v, (flat (xs.drop k))[j]? = some v → cur[off + k * Enc.size α + j]? = some v := fun j v hv => by
      have e : flat xs = flat (xs.take k) ++ flat (xs.drop k) := by rw [← flat_append, List.take_append_drop]
      have hl : (flat (xs.take k)).length = k * Enc.size α := by rw [length_flat, List.length_take, Nat.min_eq_left hk]
      have := h6 (k * Enc.size α + j) v (by rw [e, List.getElem?_append_right (by omega), hl, Nat.add_sub_cancel_left]; exact hv)
      rwa [← Nat.add_assoc] at this
    unfold advA
    by_cases hc : cap = k
    · rw [if_pos hc]
      have hxl : xs.length = k := by omega
      have hx : xs.drop k = [] := List.drop_eq_nil_of_le (by omega)
      refine .inr ⟨g, off, cur, rfl, h2, by rw [hx]; simp, by omega, by rw [hc, Nat.sub_self, Nat.zero_mul]; omega, fun j v hv => by rw [hx] at hv; simp [flat] at hv⟩
    · rw [if_neg hc]
      refine .inr ⟨g, off + k * Enc.size α, cur, by simp [Addr.add], h2, by rw [List.length_drop]; omega, by omega, ?_, hd⟩
      have : k * Enc.size α + (cap - k) * Enc.size α = cap * Enc.size α := by rw [← Nat.add_mul]; congr 1; omega
      omega
/-! ### cells set one behind the other -/
def putA (cur : Array Value) : Nat → List Value → Array Value
  | _, [] => cur
  | o, v :: r => putA (cur.setIfInBounds o v) (o + 1) r
theorem putA_size : ∀ (vs : List Value) (o : Nat) (cur : Array Value), (putA cur o vs).size = cur.size
  | [], _, _ => rfl
  | v :: r, o, cur => by rw [putA, putA_size r]; simp
theorem putA_out : ∀ (vs : List Value) (o : Nat) (cur : Array Value) (j : Nat), j < o → (putA cur o vs)[j]? = cur[j]?
  | [], _, _, _, _ => rfl
  | v :: r, o, cur, j, h => by rw [putA, putA_out r _ _ j (by omega), Array.getElem?_setIfInBounds_ne (by omega)]
theorem putA_in : ∀ (vs : List Value) (o : Nat) (cur : Array Value) (j : Nat) (v : Value), o + vs.length ≤ cur.size → vs[j]? = some v → (putA cur o vs)[o + j]? = some v
  | [], _, _, _, _, _, h => by simp at h
  | u :: r, o, cur, 0, v, hl, h => by
    simp only [List.getElem?_cons_zero, Option.some.injEq] at h
    subst h
    rw [List.length_cons] at hl
    show (putA (cur.setIfInBounds o u) (o + 1) r)[o]? = some u
    rw [putA_out r _ _ o (by omega), Array.getElem?_setIfInBounds_self_of_lt (by omega)]
  | u :: r, o, cur, j + 1, v, hl, h => by
    rw [List.length_cons] at hl
    simp only [List.getElem?_cons_succ] at h
    rw [putA, show o + (j + 1) = o + 1 + j by omega]
    exact putA_in r (o + 1) _ j v (by simp; omega) h
theorem heap_setCell1 {b o : Nat} {v : Value} {cur : Array Value} {T : TypeId} {fr : Nat × Nat} (h : w.heap[b]? = some (.cells cur T fr)) : (w.setCell ⟨b, o, none⟩ v).heap[b]? = some (.cells (cur.setIfInBounds o v) T fr) := by
  obtain ⟨hlt, hk⟩ := Array.getElem?_eq_some_iff.1 h
  show (w.heap.modify b _)[b]? = _
  rw [Array.getElem?_eq_getElem (by rw [Array.size_modify]; exact hlt), Array.getElem_modify_self, hk]
  rfl
theorem setCells_heap {b : Nat} {T : TypeId} {fr : Nat × Nat} : ∀ (vs : List Value) (o : Nat) (w : World) (cur : Array Value), w.heap[b]? = some (.cells cur T fr) → (w.setCells b o vs).heap[b]? = some (.cells (putA cur o vs) T fr)
  | [], _, _, _, h => h
  | v :: r, o, w, cur, h => setCells_heap r (o + 1) _ _ (heap_setCell1 h)
theorem setCells_keeps {b : Nat} : ∀ (vs : List Value) (o : Nat) (w : World), Keeps (one b) w (w.setCells b o vs)
  | [], _, w => Keeps.refl _ w
  | v :: r, o, w => by
    refine Keeps.trans (b := w.setCell ⟨b, o, none⟩ v) ⟨rfl, rfl, rfl, by simp [World.setCell], fun k _ hk => RowKit.Below.heap_setCell _ _ _ k (fun e => hk e)⟩ (setCells_keeps r (o + 1) _) (fun _ _ h => h)
end
section
variable {P : Program} {w : World} {α : Type} [Enc α]
/-- append of one slice onto such a one -/
theorem run_appendAt {t e : TypeId} {ty : TypeId} {bytes : Nat} {z : Value} {agg : Bool} (ht : P.underlying t = some (.slice e)) (he : Ty P e (Enc.size α) bytes z agg) (hzs : z.cells.size = Enc.size α)
    {a c : Option Addr} {cap cap2 : Nat} {xs ys : List α} (hown : OwnAt w e a cap xs) (hys : SlOf w c ys) (h63 : xs.length + ys.length ≤ maxLen) (hb : (xs.length + ys.length) * bytes ≤ 140737488355328) :
    ∃ a' cap' w', (Builtin.append_ #[t, t] ty #[.slice a xs.length cap, .slice c ys.length cap2]).run P w = .ok (.slice a' (xs ++ ys).length cap') w' ∧ OwnAt w' e a' cap' (xs ++ ys) ∧ Keeps (own a) w w' ∧ Moved w a a' := by
  rcases hown with ⟨rfl, rfl, rfl⟩ | ⟨g, off, cur, rfl, hg, hnc, hcm, hcs, hcells⟩
  · obtain ⟨a', cap', w', h1, h2, h3, h4, -⟩ := run_append (P := P) (w := w) (ty := ty) (cap2 := cap2) ht he hzs (OwnSl.nil (α := α) w e) hys h63 hb
    exact ⟨a', cap', w', h1, h2.at_, h3, h4⟩
  obtain ⟨i, hi, hz, hs, hby⟩ := he.info
  by_cases hn : c = none
  · subst hn
    have hy : ys = [] := by
      rcases hys with h | ⟨b, o, h, _⟩
      · exact h
      · cases h
    subst hy
    refine ⟨_, cap, w, ?_, by rw [List.append_nil]; exact .inr ⟨g, off, cur, rfl, hg, hnc, hcm, hcs, hcells⟩, Keeps.refl _ w, fun x' hx' => .inl ⟨x', hx', rfl⟩⟩
    simp [Builtin.append_, run_underlying ht, he.run_size, Builtin.lenOf, hnc, Builtin.firstCells, storeCells]
  obtain ⟨ad, hc⟩ : ∃ ad, c = some ad := by cases c with | none => exact absurd rfl hn | some ad => exact ⟨ad, rfl⟩
  subst hc
  have hnews : ∀ j u, (flat ys)[j]? = some u → w.cell? (ad.add j) = some u := by
    intro j u hu
    rcases hys with rfl | ⟨b, o, h, hcl⟩
    · simp [flat] at hu
    · simp only [Option.some.injEq] at h
      subst h
      rw [Addr.add_lit]
      exact hcl.cell hu
  have hl : (flat ys).length = ys.length * i.size := by rw [length_flat, hs]
  have hcell : ∀ j, j < cur.size → w.cell? ⟨g, j, none⟩ = cur[j]? ∧ w.frozen? ⟨g, j, none⟩ = false := fun j hj => by
    constructor
    · simp [World.cell?, hg]
    · simp [World.frozen?, hg]
  by_cases hroom : xs.length + ys.length ≤ cap
  · have hfit : off + xs.length * Enc.size α + (flat ys).length ≤ cur.size := by
      have h1 : (xs.length + ys.length) * Enc.size α ≤ cap * Enc.size α := Nat.mul_le_mul_right _ hroom
      rw [Nat.add_mul] at h1
      rw [length_flat]; omega
    have hr := run_append_room_cells (P := P) w t ty e i ht hi g off xs.length cap ad ys.length cap2 (flat ys) hl hnews (plain_flat ys) hroom
      (fun j hj => by rw [hs, (hcell _ (by omega)).1, Array.getElem?_eq_getElem (by omega)]; rfl) (fun j hj => by rw [hs]; exact (hcell _ (by omega)).2)
    rw [hs] at hr
    refine ⟨_, cap, _, by rw [List.length_append]; exact hr, .inr ⟨g, off, _, rfl, setCells_heap _ _ _ _ hg, by rw [List.length_append]; exact hroom, hcm, by rw [putA_size]; exact hcs, fun j v hv => ?_⟩, (setCells_keeps _ _ _).mono (fun q _ h => ⟨_, rfl, Eq.symm h⟩), fun x' hx' => .inl ⟨x', hx', rfl⟩⟩
    rw [flat_append] at hv
    by_cases hj : j < (flat xs).length
    · rw [List.getElem?_append_left hj] at hv
      rw [putA_out _ _ _ _ (by rw [length_flat] at hj; omega)]
      exact hcells j v hv
    · rw [List.getElem?_append_right (by omega)] at hv
      have := putA_in (flat ys) (off + xs.length * Enc.size α) cur (j - (flat xs).length) v hfit hv
      rw [length_flat] at this hj
      rwa [show off + xs.length * Enc.size α + (j - xs.length * Enc.size α) = off + j by omega] at this
  · have holds : ∀ j u, (flat xs)[j]? = some u → w.cell? ((⟨g, off, none⟩ : Addr).add j) = some u := fun j u hu => by
      rw [Addr.add_lit]
      have := hcells j u hu
      rw [(hcell _ (Array.getElem?_eq_some_iff.1 this).1).1]; exact this
    obtain ⟨v', w', hr, h2, h3⟩ := run_append_arg_grows (P := P) w t ty e i z (Enc.size α) bytes ht hi hz hs hby hzs (Enc.pos (α := α)) ⟨g, off, none⟩ xs.length cap (flat xs) (length_flat _) holds ad ys.length cap2 (flat ys) (length_flat _) hnews (by omega) h63 hb
    rcases h2.2 with ⟨_, h0⟩ | ⟨g2, cap', cur', rfl, hb2, hg2, h4⟩
    · omega
    · have hO : OwnSl w' e (some ⟨g2, 0, none⟩) cap' (xs ++ ys) := ⟨length_flat _, .inr ⟨g2, cap', cur', by rw [List.length_append], Nat.zero_le _, hg2, by rw [List.length_append, flat_append]; exact h4⟩⟩
      refine ⟨_, cap', w', by rw [List.length_append]; exact hr, hO.at_, ⟨h3.os, h3.tape, h3.output, h3.size, fun k hk _ => h3.block k hk (by simp)⟩, fun x' hx' => .inr (by simp only [Option.some.injEq] at hx'; subst hx'; exact hb2)⟩
end
section
variable {P : Program} {f : FuncId} {n : Nat} {R : Ending → World → Prop} {k : List Item} {ρ : Regs} {w : World}
variable {dst : Option Nat} {ty : TypeId} {pos : String} {af : Array Edge} {α : Type} [Enc α] {K : Regs → World → Prop}
theorem St1.appendAt {t e : TypeId} {s x : Operand} {bytes : Nat} {z : Value} {agg : Bool} {a c : Option Addr} {cap cap2 : Nat} {xs ys : List α}
    (ht : P.underlying t = some (.slice e)) (he : Ty P e (Enc.size α) bytes z agg) (hzs : z.cells.size = Enc.size α)
    (hs : rd n ρ s = .slice a xs.length cap) (hx : rd n ρ x = .slice c ys.length cap2) (hown : OwnAt w e a cap xs) (hys : SlOf w c ys)
    (h63 : xs.length + ys.length ≤ 4294967296) (hb : bytes ≤ 16384)
    (h : ∀ a' cap' w', OwnAt w' e a' cap' (xs ++ ys) → Keeps (own a) w w' → MovedS w (own a) (own a') → K (updo ρ dst (.slice a' (xs ++ ys).length cap')) w') :
    St1 P f n R k ⟨dst, .call { callee := .builtin .append, args := #[s, x], argTypes := #[t, t] }, ty, pos, af, none⟩ ρ w K := by
  have h2 : (xs.length + ys.length) * bytes ≤ 140737488355328 := Nat.le_trans (Nat.mul_le_mul h63 hb) (by decide)
  obtain ⟨a', cap', w', hr, h3, h4, h5⟩ := run_appendAt (P := P) (ty := ty) (cap2 := cap2) ht he hzs hown hys (by simp only [maxLen]; omega) h2
  refine St1.val (v := .slice a' (xs ++ ys).length cap') (w' := w') ?_ (h a' cap' w' h3 h4 (moved_own h5))
  simp [execOp, resolve, invoke, builtin, hs, hx] at hr ⊢
  simp [hr]
end
end Go.Proofs.YtdlaoncjiolckaaGreat
