/-
  Layer 22's laws: what they share.
-/
import Derived.Test.YtdlaoncjiolckaaGreatRows
import Derived.Test.YtdlaoncjiolckaaGreatWj
namespace Go.Proofs.YtdlaoncjiolckaaGreat
attribute [local irreducible] St1 RL RA RT RT1 Run

def toMg (p : Pk) : Mg := ⟨p.v, p.s⟩
section
variable {w w' : World} {F : Nat → Prop} {b : Nat} {nodes id now i : Int} {pv : List (Int × MV)} {cs : List LinkC} {vs : List MV} {k : Nat} {v : MV}
theorem packetsD (h : WldAt w b F nodes id now pv cs) (hid : id ≤ 1000000000) : Calls Tryz.prog 10 #[.pointer (some ⟨b, 0, none⟩)] w (Ret (fun r w' => ∃ a' c' ks, r = .slice a' (ks.map Pk.k).length c' ∧ OwnSl w' 59 a' c' (ks.map Pk.k) ∧ MgsAt w' ks ∧ ks.map Pk.p = pv ∧ (∀ q, own a' q → w.heap.size ≤ q) ∧ (∀ q, mgsS ks q → w.heap.size ≤ q) ∧ (∀ q, mgsS ks q → ¬ own a' q) ∧ Ext w w')) := by
  obtain ⟨pm, cm, ts, rfl, rfl, hD⟩ := h
  exact packets_ b pm cm nodes id now ts cs w hD hid
theorem sendK (h : WldAt w b F nodes id now pv cs) (al : Option Addr) (ks : List Pk) (lc : Nat) (hl : SlOf w al (ks.map Pk.c)) (hM : MgsAt w ks) (hld : ∀ x, al = some x → ¬ F x.block) (hd : ∀ q, mgsS ks q → ¬ F q) (hml : ks.length ≤ 1048576) (hid : id ≤ 100000000) :
    Calls Tryz.prog 13 #[.pointer (some ⟨b, 0, none⟩), .slice al (ks.map Pk.c).length lc] w (Ret (WStep b F w (.int .i64 (((snI nodes id pv (ks.map Pk.v) ks.length).n : Nat) : Int)) nodes (snI nodes id pv (ks.map Pk.v) ks.length).id now (snI nodes id pv (ks.map Pk.v) ks.length).pv cs)) := by
  have e : ks.map Pk.c = (ks.map toMg).map Mg.c := by rw [List.map_map]; rfl
  have e2 : ks.map Pk.v = (ks.map toMg).map Mg.v := by rw [List.map_map]; rfl
  have h2 := sendD h al (ks.map toMg) lc (by rw [← e]; exact hl) (fun x hx _ => hld x hx) (fun m hm => by
    obtain ⟨p, hp, rfl⟩ := List.mem_map.1 hm
    exact ⟨(hM.all p hp).own.r, (hM.all p hp).ok, fun q hq => hd q ⟨p, hp, rd_own q hq⟩⟩) (by rwa [List.length_map]) hid
  have e3 : (ks.map toMg).length = ks.length := List.length_map ..
  rw [← e, ← e2, e3] at h2
  exact h2
theorem takeX (h : WldAt w b F nodes id now pv cs) (i : Int) : Calls Tryz.prog 14 #[.pointer (some ⟨b, 0, none⟩), .int .i64 i] w (Ret fun r w' => ∃ V, takeV nodes cs pv i = V ∧ TStep b F w (takeE nodes cs pv i) V nodes id now (takeL nodes cs pv i) cs r w') := ret_mono (takeD h i) fun _ _ h => ⟨_, rfl, h⟩
theorem getP_mem (h : getP pv i = some v) : (i, v) ∈ pv := by
  unfold getP at h
  rw [Option.map_eq_some_iff] at h
  obtain ⟨x, hx, rfl⟩ := h
  have h0 := List.find?_some hx
  have h1 : x.1 = i := of_decide_eq_true h0
  have := List.mem_of_find?_eq_some hx
  rwa [show (i, x.2) = x by rw [← h1]]
theorem getP_none (h : getP pv i = none) : ∀ x ∈ pv, x.1 ≠ i := fun x hx e => by
  unfold getP at h
  rw [Option.map_eq_none_iff, List.find?_eq_none] at h
  exact h x hx (decide_eq_true e)
theorem take0 (h : takeE nodes cs pv i = 0) : (i, takeV nodes cs pv i) ∈ pv ∧ takeL nodes cs pv i = delP pv i := by
  refine ⟨?_, if_pos h⟩
  unfold takeV
  rw [if_pos h]
  unfold takeE at h
  cases hg : getP pv i with
  | none => rw [hg] at h; cases h
  | some v => exact getP_mem hg
theorem takeNo (h : ¬ takeE nodes cs pv i = 0) : takeL nodes cs pv i = pv := if_neg h
theorem del_len (hr : pv.Pairwise (fun x y => x.1 < y.1)) {x : Int × MV} (hx : x ∈ pv) : (delP pv x.1).length + 1 = pv.length := by
  obtain ⟨l1, l2, rfl⟩ := List.append_of_mem hx
  unfold delP
  obtain ⟨h1, h2, h3⟩ := List.pairwise_append.1 hr
  have f1 : l1.filter (fun y => decide (y.1 ≠ x.1)) = l1 := List.filter_eq_self.2 fun y hy => decide_eq_true (by have := h3 y hy x (by simp); omega)
  have f2 : l2.filter (fun y => decide (y.1 ≠ x.1)) = l2 := List.filter_eq_self.2 fun y hy => decide_eq_true (by have := (List.pairwise_cons.1 h2).1 y hy; omega)
  rw [List.filter_append, f1, List.filter_cons, if_neg (by simp), f2]
  simp only [List.length_append, List.length_cons]; omega
theorem del_no (h : getP pv i = none) : delP pv i = pv := List.filter_eq_self.2 fun y hy => decide_eq_true (getP_none h y hy)
theorem del_sub : ∀ x ∈ delP pv i, x ∈ pv ∧ x.1 ≠ i := fun x hx => by
  obtain ⟨h1, h2⟩ := List.mem_filter.1 hx
  exact ⟨h1, of_decide_eq_true h2⟩
theorem lose_len (hr : pv.Pairwise (fun x y => x.1 < y.1)) : (loseE pv i = 0 → (delP pv i).length + 1 = pv.length) ∧ (loseE pv i ≠ 0 → (delP pv i).length = pv.length) := by
  unfold loseE
  cases hg : getP pv i with
  | none => exact ⟨fun h => (by cases h), fun _ => by rw [del_no hg]⟩
  | some v => exact ⟨fun _ => del_len hr (getP_mem hg), fun h => absurd rfl h⟩
theorem twice_len : (twiceE pv i = 0 → (twiceL id pv i).length = pv.length + 1 ∧ twiceN id pv i = id + 1) ∧ (twiceE pv i ≠ 0 → (twiceL id pv i).length = pv.length ∧ twiceN id pv i = id) := by
  refine ⟨fun h => ⟨?_, if_pos h⟩, fun h => ⟨?_, if_neg h⟩⟩
  · unfold twiceL; rw [if_pos h]; simp
  · unfold twiceL; rw [if_neg h]
theorem twice_mem : ∀ x ∈ twiceL id pv i, x ∈ pv ∨ (x.1 = id + 1 ∧ ∃ y ∈ pv, y.2 = x.2) := fun x hx => by
  unfold twiceL at hx
  split at hx
  · rename_i h
    rcases List.mem_append.1 hx with hx | hx
    · exact .inl hx
    · simp only [List.mem_singleton] at hx
      subst hx
      right
      unfold twiceE at h
      cases hg : getP pv i with
      | none => rw [hg] at h; cases h
      | some v => exact ⟨rfl, _, getP_mem hg, rfl⟩
  · exact .inl hx
theorem sn_mem : ∀ k, k ≤ vs.length → ∀ x ∈ (snI nodes id pv vs k).pv, x ∈ pv ∨ (x.2 ∈ vs ∧ id < x.1 ∧ twoB nodes x.2.frm x.2.to = true)
  | 0, _ => fun x hx => .inl hx
  | k + 1, h => fun x hx => by
    have hv : vs[k]? = some vs[k] := List.getElem?_eq_getElem (by omega)
    have hid : ∀ k, k ≤ vs.length → id ≤ (snI nodes id pv vs k).id := fun k => by
      induction k with
      | zero => exact fun _ => Int.le_refl _
      | succ k ih =>
        intro h
        have hv : vs[k]? = some vs[k] := List.getElem?_eq_getElem (by omega)
        have := ih (by omega)
        rw [sn_succ hv, snStep]
        split
        · show id ≤ (snI nodes id pv vs k).id + 1; omega
        · exact this
    rw [sn_succ hv, snStep] at hx
    split at hx
    · rename_i h2
      rcases List.mem_append.1 hx with hx | hx
      · exact sn_mem k (by omega) x hx
      · simp only [List.mem_singleton] at hx
        subst hx
        exact .inr ⟨List.getElem_mem _, by show id < (snI nodes id pv vs k).id + 1; have := hid k (by omega); omega, h2.1⟩
    · exact sn_mem k (by omega) x hx
end
theorem eight (u : Int) (h0 : 0 ≤ u) (h1 : u ≤ 18446744073709551615) : ∃ m8 : Int, IntKind.i64.wrap (Int.tmod u 8) = m8 ∧ 0 ≤ m8 ∧ m8 ≤ 7 := by
  have e : Int.tmod u 8 = u % 8 := Int.tmod_eq_emod_of_nonneg h0
  rw [e]
  exact ⟨u % 8, wrap64 _ (by omega) (by omega), by omega, by omega⟩
def akT (tk : List Int) : List (Int × Value) := tk.map fun a => (a, .bool true)
theorem akT_get (tk : List Int) (a : Int) : (mget (akT tk) a).getD (.bool false) = .bool (decide (a ∈ tk)) := by
  unfold mget akT
  by_cases h : a ∈ tk
  · have : ((tk.map fun a => (a, Value.bool true)).find? (fun p => decide (a = p.1))).isSome := by
      rw [List.find?_isSome]
      exact ⟨(a, .bool true), List.mem_map.2 ⟨a, h, rfl⟩, by simp⟩
    obtain ⟨x, hx⟩ := Option.isSome_iff_exists.1 this
    rw [hx]
    obtain ⟨y, _, rfl⟩ := List.mem_map.1 (List.mem_of_find?_eq_some hx)
    simp [h]
  · have : (tk.map fun a => (a, Value.bool true)).find? (fun p => decide (a = p.1)) = none := by
      rw [List.find?_eq_none]
      intro x hx
      obtain ⟨y, hy, rfl⟩ := List.mem_map.1 hx
      simp only [decide_eq_true_eq]
      exact fun e => h (e ▸ hy)
    rw [this]
    simp [h]
theorem akT_put {tk : List Int} {a : Int} (h : a ∉ tk) : mput (akT tk) a (.bool true) = akT (tk ++ [a]) := by
  have h1 := mfind_get a (akT tk) 0
  have h2 : mget (akT tk) a = none := by
    unfold mget akT
    rw [Option.map_eq_none_iff, List.find?_eq_none]
    intro x hx
    obtain ⟨y, hy, rfl⟩ := List.mem_map.1 hx
    simp only [decide_eq_true_eq]
    exact fun e => h (e ▸ hy)
  rw [h2] at h1
  unfold mput
  rw [Option.map_eq_none_iff.1 h1, akT, akT, List.map_append]; rfl
/-- a call of a script -/
def DoOk (w : World) (o : DoC) : Prop := (-9223372036854775808 ≤ o.op ∧ o.op ≤ 9223372036854775807) ∧ ∃ ms : List Mg, o.msgs.len = (ms.map Mg.c).length ∧ SlOf w o.msgs.a (ms.map Mg.c) ∧ ms.length ≤ 1048576 ∧ (∀ m ∈ ms, SixR w m.s m.v ∧ VOk m.v)




end Go.Proofs.YtdlaoncjiolckaaGreat
