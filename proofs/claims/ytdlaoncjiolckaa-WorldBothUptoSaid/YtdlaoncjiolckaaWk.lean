/-
  slices.Sorted(maps.Keys(m)) at int keys.
-/
import Derived.RangeFuncKeeps
import Derived.RangeFuncBox
import Derived.RangeFuncLeaves
import Derived.Shelf.SlIterI.Nil
import Derived.Shelf.SortM.Plain
import Derived.Shelf.SortM.SortNone
import Derived.Ground.GgzProg
import Derived.Ground.SlgmProg
import Derived.Sort.KeysCollected
import Derived.Maps.Keyed
import Derived.Test.YtdlaoncjiolckaaRows
import Derived.Test.YtdlaoncjiolckaaWh
namespace Go.Proofs.Ytdlaoncjiolckaa
attribute [local irreducible] St1 RL RA RT RT1 Run

section
open Go.Shelf
def keysL_ren : Go.Shelf.Ren := ⟨fun | 7 => 30 | 10 => 50 | n => n, fun | 23 => 66 | 26 => 3 | 3 => 48 | 28 => 85 | 0 => 0 | 27 => 84 | 33 => 98 | 4 => 4 | n => n, fun | n => n⟩
theorem keysL : Go.Proofs.SlLaysZI.n7 Try.prog keysL_ren := {
  mixed := by kernel_rfl
  f7 := ⟨Try.f30.name, by decide, Try.func30.trans (congrArg some (by kernel_rfl))⟩
  f10 := ⟨Try.f50.name, by decide, Try.func50.trans (congrArg some (by kernel_rfl))⟩
  t0 := Try.underlying0
  a0 := Try.isAgg0
  z0 := Try.sizeOf0
  v0 := Try.zeroValue0
  t4 := Try.underlying4
  a4 := Try.isAgg4
  z4 := Try.sizeOf4
  v4 := Try.zeroValue4
  t23 := Try.underlying66
  a23 := Try.isAgg66
  z23 := Try.sizeOf66
  v23 := Try.zeroValue66
  t26 := Try.underlying3
  a26 := Try.isAgg3
  z26 := Try.sizeOf3
  v26 := Try.zeroValue3
  t27 := Try.underlying84
  a27 := Try.isAgg84
  z27 := Try.sizeOf84
  v27 := Try.zeroValue84
  t28 := Try.underlying85
  a28 := Try.isAgg85
  z28 := Try.sizeOf85
  v28 := Try.zeroValue85
  t33 := Try.underlying98
  a33 := Try.isAgg98
  z33 := Try.sizeOf98
  v33 := Try.zeroValue98 }
def sortedL_ren : Go.Shelf.Ren := ⟨fun | 6 => 29 | 8 => 48 | 9 => 49 | 11 => 60 | 13 => 62 | 12 => 61 | 23 => 75 | 24 => 76 | 14 => 66 | 15 => 67 | 16 => 68 | 17 => 69 | 18 => 70 | 19 => 71 | 20 => 72 | 21 => 73 | 22 => 74 | 25 => 79 | 26 => 80 | 27 => 81 | 28 => 82 | 29 => 83 | 30 => 84 | 31 => 85 | n => n, fun | 26 => 3 | 28 => 85 | 24 => 82 | 0 => 0 | 3 => 3 | 37 => 22 | 48 => 144 | 50 => 95 | 4 => 4 | 40 => 137 | 39 => 136 | 45 => 141 | 5 => 5 | 9 => 9 | 51 => 150 | 55 => 154 | 57 => 167 | 58 => 168 | 33 => 98 | n => n, fun | n => n⟩
theorem sortedL : Go.Proofs.SlLaysZI.n6 Try.prog sortedL_ren := {
  mixed := by kernel_rfl
  f6 := ⟨Try.f29.name, by decide, Try.func29.trans (congrArg some (by kernel_rfl))⟩
  f8 := ⟨Try.f48.name, by decide, Try.func48.trans (congrArg some (by kernel_rfl))⟩
  f11 := ⟨Try.f60.name, by decide, Try.func60.trans (congrArg some (by kernel_rfl))⟩
  t0 := Try.underlying0
  a0 := Try.isAgg0
  z0 := Try.sizeOf0
  v0 := Try.zeroValue0
  t24 := Try.underlying82
  a24 := Try.isAgg82
  z24 := Try.sizeOf82
  v24 := Try.zeroValue82
  t26 := Try.underlying3
  a26 := Try.isAgg3
  z26 := Try.sizeOf3
  v26 := Try.zeroValue3
  t28 := Try.underlying85
  a28 := Try.isAgg85
  z28 := Try.sizeOf85
  v28 := Try.zeroValue85
  i26 := by kernel_rfl }
def sortL_ren : Go.Shelf.Ren := ⟨fun | 5 => 49 | 8 => 62 | 7 => 61 | 19 => 75 | 20 => 76 | 10 => 66 | 11 => 67 | 12 => 68 | 13 => 69 | 14 => 70 | 15 => 71 | 16 => 72 | 17 => 73 | 18 => 74 | 30 => 79 | 31 => 80 | 32 => 81 | 33 => 82 | 34 => 83 | 35 => 84 | 40 => 85 | n => n, fun | 23 => 82 | 25 => 3 | 3 => 3 | 32 => 22 | 22 => 82 | 0 => 0 | 44 => 144 | 46 => 95 | 4 => 4 | 36 => 137 | 35 => 136 | 41 => 141 | 5 => 5 | 9 => 9 | 53 => 150 | 57 => 154 | 63 => 167 | 64 => 168 | n => n, fun | n => n⟩
theorem sortL : Go.Proofs.SlLaysM.n5 Try.prog sortL_ren := {
  mixed := by kernel_rfl
  f5 := ⟨Try.f49.name, by decide, Try.func49.trans (congrArg some (by kernel_rfl))⟩
  f7 := ⟨Try.f61.name, by decide, Try.func61.trans (congrArg some (by kernel_rfl))⟩
  f8 := Try.func62.trans (congrArg some (by kernel_rfl))
  f10 := ⟨Try.f66.name, by decide, Try.func66.trans (congrArg some (by kernel_rfl))⟩
  f11 := ⟨Try.f67.name, by decide, Try.func67.trans (congrArg some (by kernel_rfl))⟩
  f12 := ⟨Try.f68.name, by decide, Try.func68.trans (congrArg some (by kernel_rfl))⟩
  f13 := ⟨Try.f69.name, by decide, Try.func69.trans (congrArg some (by kernel_rfl))⟩
  f14 := ⟨Try.f70.name, by decide, Try.func70.trans (congrArg some (by kernel_rfl))⟩
  f15 := ⟨Try.f71.name, by decide, Try.func71.trans (congrArg some (by kernel_rfl))⟩
  f16 := ⟨Try.f72.name, by decide, Try.func72.trans (congrArg some (by kernel_rfl))⟩
  f17 := ⟨Try.f73.name, by decide, Try.func73.trans (congrArg some (by kernel_rfl))⟩
  f18 := ⟨Try.f74.name, by decide, Try.func74.trans (congrArg some (by kernel_rfl))⟩
  f19 := Try.func75.trans (congrArg some (by kernel_rfl))
  f20 := Try.func76.trans (congrArg some (by kernel_rfl))
  f30 := ⟨Try.f79.name, by decide, Try.func79.trans (congrArg some (by kernel_rfl))⟩
  f31 := Try.func80.trans (congrArg some (by kernel_rfl))
  f32 := Try.func81.trans (congrArg some (by kernel_rfl))
  f33 := ⟨Try.f82.name, by decide, Try.func82.trans (congrArg some (by kernel_rfl))⟩
  f34 := ⟨Try.f83.name, by decide, Try.func83.trans (congrArg some (by kernel_rfl))⟩
  f35 := ⟨Try.f84.name, by decide, Try.func84.trans (congrArg some (by kernel_rfl))⟩
  f40 := ⟨Try.f85.name, by decide, Try.func85.trans (congrArg some (by kernel_rfl))⟩
  t0 := Try.underlying0
  a0 := Try.isAgg0
  z0 := Try.sizeOf0
  v0 := Try.zeroValue0
  t3 := Try.underlying3
  a3 := Try.isAgg3
  z3 := Try.sizeOf3
  v3 := Try.zeroValue3
  t4 := Try.underlying4
  a4 := Try.isAgg4
  z4 := Try.sizeOf4
  v4 := Try.zeroValue4
  t5 := Try.underlying5
  a5 := Try.isAgg5
  z5 := Try.sizeOf5
  v5 := Try.zeroValue5
  t9 := Try.underlying9
  a9 := Try.isAgg9
  z9 := Try.sizeOf9
  v9 := Try.zeroValue9
  t22 := Try.underlying82
  a22 := Try.isAgg82
  z22 := Try.sizeOf82
  v22 := Try.zeroValue82
  t23 := Try.underlying82
  a23 := Try.isAgg82
  z23 := Try.sizeOf82
  v23 := Try.zeroValue82
  t25 := Try.underlying3
  a25 := Try.isAgg3
  z25 := Try.sizeOf3
  v25 := Try.zeroValue3
  t32 := Try.underlying22
  a32 := Try.isAgg22
  z32 := Try.sizeOf22
  v32 := Try.zeroValue22
  t35 := Try.underlying136
  a35 := Try.isAgg136
  z35 := Try.sizeOf136
  v35 := Try.zeroValue136
  t36 := Try.underlying137
  a36 := Try.isAgg137
  z36 := Try.sizeOf137
  v36 := Try.zeroValue137
  t41 := Try.underlying141
  a41 := Try.isAgg141
  z41 := Try.sizeOf141
  v41 := Try.zeroValue141
  t44 := Try.underlying144
  a44 := Try.isAgg144
  z44 := Try.sizeOf144
  v44 := Try.zeroValue144
  t46 := Try.underlying95
  a46 := Try.isAgg95
  z46 := Try.sizeOf95
  v46 := Try.zeroValue95
  t53 := Try.underlying150
  a53 := Try.isAgg150
  z53 := Try.sizeOf150
  v53 := Try.zeroValue150
  t57 := Try.underlying154
  a57 := Try.isAgg154
  z57 := Try.sizeOf154
  v57 := Try.zeroValue154
  t63 := Try.underlying167
  a63 := Try.isAgg167
  z63 := Try.sizeOf167
  v63 := Try.zeroValue167
  t64 := Try.underlying168
  a64 := Try.isAgg168
  z64 := Try.sizeOf168
  v64 := Try.zeroValue168 }

end
section
open Go.RowKit Go.Maps Go.Sort Go.Shelf
theorem sortsL (m : Nat) : AnyZI.SortsIn Try.prog sortedL_ren Fence.wide m :=
  ⟨fun blk off cap ss W hH hblk hsz => callsIn_wide.2 (AnyM.slices_Sort_int sortL blk off cap ss W hH hblk hsz),
   fun p cap W => callsIn_wide.2 (AnyM.slices_Sort_int_none sortL p cap W)⟩
theorem keysC (mb : Option Nat) (W : World) : CallsIn Fence.wide 5 Try.prog 30 #[.map mb] W fun e w' => e = .returned (.func (.func 50) #[] #[.pointer (some ⟨W.heap.size, 0, none⟩)]) ∧ w' = W.alloc (.cells #[.map mb] 66) :=
  AnyZI.keys_in keysL Fence.wide 5 trivial rfl mb W
set_option maxHeartbeats 1000000 in
theorem sortedC {H : Type} (b nn : Nat) (D0 : DataW H) (R : Value → Option (DataW H × List MemPlace)) (w : World) (hown : w.ownsMap Try.prog 3 R b nn D0) (hmax : Maps.size D0 ≤ maxLen) (hbytes : Maps.size D0 * 8 ≤ 140737488355328) :
    CallsIn Fence.wide 5 Try.prog 29 #[.func (.func 50) #[] #[.pointer (some ⟨w.heap.size, 0, none⟩)]] (w.alloc (.cells #[.map (some b)] 66)) fun e w' => ∃ (v : Value) (ss : List Int), e = .returned v ∧ ss.Perm (intKeys D0) ∧
      w'.ownsRow (w.alloc (.cells #[.map (some b)] 66)).heap.size 3 1 v ss.length ((ss.mergeSort (fun x y => decide (x ≤ y))).map encZ) ∧ (v = .slice none 0 0 ↔ ss = []) ∧ RowKit.Below (w.alloc (.cells #[.map (some b)] 66)).heap.size (w.alloc (.cells #[.map (some b)] 66)) w' := by
  have hbl := hown.lt
  have hseq : SeqGives Fence.wide 2 Try.prog 50 #[.pointer (some ⟨w.heap.size, 0, none⟩)] encZ (fun ss => ss.Perm (intKeys D0)) (Maps.size D0) (w.alloc (.cells #[.map (some b)] 66)) :=
    AnyZI.keys_gives (ρ := keysL_ren) { keysL with } Fence.wide _ trivial rfl (by omega) w.heap.size b nn D0 _ (by simp) (by simp) (by
      obtain ⟨es, clock, hb, Ft, hs, hD⟩ := hown
      exact ⟨es, clock, (Below.heap_alloc _ _ b hbl).trans hb, Ft, hs, hD⟩)
  exact AnyZI.sorted_in sortedL Fence.wide 5 trivial trivial trivial trivial rfl (by omega) (sortsL _) (enters_of Try.func49 rfl (by kernel_rfl)) 50 #[.pointer (some ⟨w.heap.size, 0, none⟩)] trivial (enters_of Try.func50 rfl (by kernel_rfl)) _ _ hmax hbytes _ hseq
theorem wfZ {a : Int} (h : -9223372036854775808 ≤ a ∧ a ≤ 9223372036854775807) : (Lit.int .i64 a).wf = true := by
  have e1 : IntKind.i64.min = -9223372036854775808 := rfl
  have e2 : IntKind.i64.max = 9223372036854775807 := rfl
  simp only [Lit.wf, Bool.and_eq_true, decide_eq_true_eq, e1, e2]
  exact h
/-- a map of mine is one of the shelf's -/
theorem ownsMap_of {w : World} {m : Nat} {ps : List (Int × Value)} (h : MapAt w m ps) (hk : ∀ p ∈ ps, -9223372036854775808 ≤ p.1 ∧ p.1 ≤ 9223372036854775807) (hl : ps.length ≤ maxLen) :
    ∃ D : DataW Unit, w.ownsMap Try.prog 3 (fun _ => some (.lit (.bool true), [])) m ps.length D ∧ (intKeys D).Perm (ps.map (·.1)) ∧ Maps.size D = ps.length := by
  obtain ⟨⟨es, clock, h1, h2, h3, h4⟩, h5⟩ := h
  have hlen : es.size = ps.length := by have := congrArg List.length h2; simpa using this
  have hkeys : es.toList.map (·.key) = ps.map (fun p => Value.int .i64 p.1) := by have := congrArg (List.map (·.1)) h2; rw [List.map_map, List.map_map] at this; exact this
  have hrd : ∀ x ∈ es.toList, ∃ s : Int, x.key = .int .i64 s ∧ (Lit.int .i64 s).wf = true := by
    intro x hx
    have : x.key ∈ ps.map (fun p => Value.int .i64 p.1) := by rw [← hkeys]; exact List.mem_map.2 ⟨x, hx, rfl⟩
    obtain ⟨p, hp, e⟩ := List.mem_map.1 this
    exact ⟨p.1, e.symm, wfZ (hk p hp)⟩
  have hfit : WideElems.Fit (H := Unit) Try.prog 3 (fun _ => some (.lit (.bool true), [])) es clock := by
    refine ⟨by omega, ⟨h4, h3, ?_⟩, ?_⟩
    · rw [hkeys]
      have : (ps.map fun p => Value.int .i64 p.1) = (ps.map (·.1)).map (Value.int .i64) := by rw [List.map_map]; rfl
      rw [this, List.Nodup, List.pairwise_map]
      exact h5.imp fun hne e => hne (by injection e)
    · intro x hx
      obtain ⟨s, e, hs⟩ := hrd x hx
      exact ⟨(.int .i64 s, .lit (.bool true)), by simp [WideElems.rd, e, keyOf_int_mk Try.underlying3 hs]⟩
  refine ⟨_, ⟨es, clock, h1, hfit, by omega, rfl⟩, ?_, ?_⟩
  · have hp : ((es.toList.map (WideElems.rg (H := Unit) Try.prog 3 fun _ => some (.lit (.bool true), []))).foldr DataW.insert []).Perm (es.toList.map (WideElems.rg Try.prog 3 fun _ => some (.lit (.bool true), []))) := WideShapes.sorted_perm _
    refine (hp.map (fun p => Go.intOf p.1)).trans ?_
    rw [List.map_map]
    have e : es.toList.map ((fun p => Go.intOf p.1) ∘ WideElems.rg (H := Unit) Try.prog 3 fun _ => some (.lit (.bool true), [])) = ps.map (·.1) := by
      have h6 : ps.map (·.1) = (es.toList.map (·.key)).map (fun v => match v with | .int _ s => s | _ => 0) := by rw [hkeys, List.map_map]; rfl
      rw [h6, List.map_map]
      refine List.map_congr_left fun x hx => ?_
      obtain ⟨s, e, hs⟩ := hrd x hx
      simp [Function.comp, WideElems.rg, WideElems.rd, e, keyOf_int_mk Try.underlying3 hs, Go.intOf]
    rw [e]
  · show ((es.toList.map _).foldr DataW.insert []).length = ps.length
    rw [length_sorted, List.length_map, Array.length_toList, hlen]
theorem flat_int (l : List Int) : flat l = l.map encZ := by
  induction l with
  | nil => rfl
  | cons x l ih => rw [List.map_cons, flat_cons, ih]; rfl
theorem owns_of_rowI {w : World} {B n : Nat} {v : Value} {xs : List Int} (h : w.ownsRow B 3 1 v n (flat xs)) (hn : n = xs.length) : ∃ a c, v = .slice a xs.length c ∧ OwnSl w 3 a c xs ∧ ∀ q, own a q → B ≤ q := by
  subst hn
  obtain ⟨h1, h2⟩ := h
  rcases h2 with ⟨rfl, h0⟩ | ⟨g, cap, cur, rfl, h3, h4⟩
  · have : xs = [] := List.eq_nil_of_length_eq_zero h0
    subst this
    exact ⟨none, 0, rfl, OwnSl.nil _ _, fun q h => absurd h (own_none q)⟩
  · exact ⟨some ⟨g, 0, none⟩, cap, rfl, ⟨length_flat _, .inr ⟨g, cap, cur, rfl, Nat.zero_le _, h4⟩⟩, fun q h => by rw [own_some] at h; subst h; exact h3⟩
theorem below_ext {w w' : World} (h : RowKit.Below w.heap.size w w') : Ext w w' := ⟨h.os, h.tape, h.output, h.size, fun k hk _ => h.block k hk⟩
theorem keysM (m : Nat) (w : World) : Calls Try.prog 30 #[.map (some m)] w (Ret fun v w' => v = .func (.func 50) #[] #[.pointer (some ⟨w.heap.size, 0, none⟩)] ∧ w' = w.alloc (.cells #[.map (some m)] 66)) :=
  (callsIn_wide.1 (keysC (some m) w)).mono fun e w' h => ⟨_, h.1, rfl, h.2⟩
theorem sort_rise {ss zs : List Int} (hp : ss.Perm zs) (hz : zs.Pairwise (· < ·)) : ss.mergeSort (fun x y => decide (x ≤ y)) = zs := by
  refine List.Perm.eq_of_pairwise (le := (· ≤ ·)) (fun a b _ _ h1 h2 => Int.le_antisymm h1 h2) ?_ (hz.imp fun h => Int.le_of_lt h) ((List.mergeSort_perm _ _).trans hp)
  refine (List.pairwise_mergeSort (le := fun x y : Int => decide (x ≤ y)) ?_ ?_ ss).imp fun h => by simpa using h
  · intro a b c h1 h2
    simp only [decide_eq_true_eq] at *
    omega
  · intro a b
    simp only [Bool.or_eq_true, decide_eq_true_eq]
    omega
theorem sortedM {ps : List (Int × Value)} (m : Nat) (w : World) (h : MapAt w m ps) (hk : ∀ p ∈ ps, -9223372036854775808 ≤ p.1 ∧ p.1 ≤ 9223372036854775807) (hl : ps.length ≤ 4294967295) (hr : (ps.map (·.1)).Pairwise (· < ·)) :
    Calls Try.prog 29 #[.func (.func 50) #[] #[.pointer (some ⟨w.heap.size, 0, none⟩)]] (w.alloc (.cells #[.map (some m)] 66)) (Ret fun v w' => ∃ a c, v = .slice a (ps.map (·.1)).length c ∧ OwnSl w' 3 a c (ps.map (·.1)) ∧
      (∀ q, own a q → (w.alloc (.cells #[.map (some m)] 66)).heap.size ≤ q) ∧ Ext (w.alloc (.cells #[.map (some m)] 66)) w') := by
  obtain ⟨D, h1, h2, h3⟩ := ownsMap_of h hk (by simp only [maxLen]; omega)
  refine (callsIn_wide.1 (sortedC m _ D _ w h1 (by rw [h3]; simp only [maxLen]; omega) (by rw [h3]; omega))).mono fun e w' he => ?_
  obtain ⟨v, ss, rfl, hS, hrow, -, hb⟩ := he
  have e1 : (ss.mergeSort (fun x y => decide (x ≤ y))).map encZ = flat (ps.map (·.1)) := by rw [sort_rise (hS.trans h2) hr, flat_int]
  have e2 : ss.length = (ps.map (·.1)).length := (hS.trans h2).length_eq
  obtain ⟨a, c, rfl, h4, h5⟩ := owns_of_rowI (xs := ps.map (·.1)) (by rw [← e1]; exact hrow) e2
  exact ⟨_, rfl, a, c, rfl, h4, h5, below_ext hb⟩
end




end Go.Proofs.Ytdlaoncjiolckaa
