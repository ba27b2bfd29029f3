/-
  slices.Sorted(maps.Keys(m)) at int keys.
-/
import Derived.RangeFuncKeeps
import Derived.RangeFuncBox
import Derived.RangeFuncLeaves
import Derived.Shelf.SlIterI.Nil
import Derived.Shelf.SortM.Plain
import Derived.Shelf.SortM.SortNone
import Derived.Ground.GgzProg
import Derived.Ground.SlgmProg
import Derived.Sort.KeysCollected
import Derived.Maps.Keyed
import Derived.Test.YtdlaoncjiolckaaGreatRows
import Derived.Test.YtdlaoncjiolckaaGreatWh
namespace Go.Proofs.YtdlaoncjiolckaaGreat
attribute [local irreducible] St1 RL RA RT RT1 Run

section
open Go.Shelf
def keysL_ren : Go.Shelf.Ren := ⟨fun | 7 => 35 | 10 => 62 | n => n, fun | 23 => 61 | 26 => 3 | 3 => 57 | 28 => 78 | 0 => 0 | 27 => 77 | 33 => 110 | 4 => 4 | n => n, fun | n => n⟩
theorem keysL : Go.Proofs.SlLaysZI.n7 Tryz.prog keysL_ren := {
  mixed := by kernel_rfl
  f7 := ⟨Tryz.f35.name, by decide, Tryz.func35.trans (congrArg some (by kernel_rfl))⟩
  f10 := ⟨Tryz.f62.name, by decide, Tryz.func62.trans (congrArg some (by kernel_rfl))⟩
  t0 := Tryz.underlying0
  a0 := Tryz.isAgg0
  z0 := Tryz.sizeOf0
  v0 := Tryz.zeroValue0
  t4 := Tryz.underlying4
  a4 := Tryz.isAgg4
  z4 := Tryz.sizeOf4
  v4 := Tryz.zeroValue4
  t23 := Tryz.underlying61
  a23 := Tryz.isAgg61
  z23 := Tryz.sizeOf61
  v23 := Tryz.zeroValue61
  t26 := Tryz.underlying3
  a26 := Tryz.isAgg3
  z26 := Tryz.sizeOf3
  v26 := Tryz.zeroValue3
  t27 := Tryz.underlying77
  a27 := Tryz.isAgg77
  z27 := Tryz.sizeOf77
  v27 := Tryz.zeroValue77
  t28 := Tryz.underlying78
  a28 := Tryz.isAgg78
  z28 := Tryz.sizeOf78
  v28 := Tryz.zeroValue78
  t33 := Tryz.underlying110
  a33 := Tryz.isAgg110
  z33 := Tryz.sizeOf110
  v33 := Tryz.zeroValue110 }
def sortedL_ren : Go.Shelf.Ren := ⟨fun | 6 => 34 | 8 => 60 | 9 => 61 | 11 => 75 | 13 => 77 | 12 => 76 | 23 => 91 | 24 => 92 | 14 => 82 | 15 => 83 | 16 => 84 | 17 => 85 | 18 => 86 | 19 => 87 | 20 => 88 | 21 => 89 | 22 => 90 | 25 => 95 | 26 => 96 | 27 => 97 | 28 => 98 | 29 => 99 | 30 => 100 | 31 => 101 | n => n, fun | 26 => 3 | 28 => 78 | 24 => 75 | 0 => 0 | 3 => 3 | 37 => 69 | 48 => 149 | 50 => 88 | 4 => 4 | 40 => 142 | 39 => 141 | 45 => 146 | 5 => 5 | 9 => 9 | 51 => 155 | 55 => 159 | 57 => 172 | 58 => 173 | 33 => 110 | n => n, fun | n => n⟩
theorem sortedL : Go.Proofs.SlLaysZI.n6 Tryz.prog sortedL_ren := {
  mixed := by kernel_rfl
  f6 := ⟨Tryz.f34.name, by decide, Tryz.func34.trans (congrArg some (by kernel_rfl))⟩
  f8 := ⟨Tryz.f60.name, by decide, Tryz.func60.trans (congrArg some (by kernel_rfl))⟩
  f11 := ⟨Tryz.f75.name, by decide, Tryz.func75.trans (congrArg some (by kernel_rfl))⟩
  t0 := Tryz.underlying0
  a0 := Tryz.isAgg0
  z0 := Tryz.sizeOf0
  v0 := Tryz.zeroValue0
  t24 := Tryz.underlying75
  a24 := Tryz.isAgg75
  z24 := Tryz.sizeOf75
  v24 := Tryz.zeroValue75
  t26 := Tryz.underlying3
  a26 := Tryz.isAgg3
  z26 := Tryz.sizeOf3
  v26 := Tryz.zeroValue3
  t28 := Tryz.underlying78
  a28 := Tryz.isAgg78
  z28 := Tryz.sizeOf78
  v28 := Tryz.zeroValue78
  i26 := by kernel_rfl }
def sortL_ren : Go.Shelf.Ren := ⟨fun | 5 => 61 | 8 => 77 | 7 => 76 | 19 => 91 | 20 => 92 | 10 => 82 | 11 => 83 | 12 => 84 | 13 => 85 | 14 => 86 | 15 => 87 | 16 => 88 | 17 => 89 | 18 => 90 | 30 => 95 | 31 => 96 | 32 => 97 | 33 => 98 | 34 => 99 | 35 => 100 | 40 => 101 | n => n, fun | 23 => 75 | 25 => 3 | 3 => 3 | 32 => 69 | 22 => 75 | 0 => 0 | 44 => 149 | 46 => 88 | 4 => 4 | 36 => 142 | 35 => 141 | 41 => 146 | 5 => 5 | 9 => 9 | 53 => 155 | 57 => 159 | 63 => 172 | 64 => 173 | n => n, fun | n => n⟩
theorem sortL : Go.Proofs.SlLaysM.n5 Tryz.prog sortL_ren := {
  mixed := by kernel_rfl
  f5 := ⟨Tryz.f61.name, by decide, Tryz.func61.trans (congrArg some (by kernel_rfl))⟩
  f7 := ⟨Tryz.f76.name, by decide, Tryz.func76.trans (congrArg some (by kernel_rfl))⟩
  f8 := Tryz.func77.trans (congrArg some (by kernel_rfl))
  f10 := ⟨Tryz.f82.name, by decide, Tryz.func82.trans (congrArg some (by kernel_rfl))⟩
  f11 := ⟨Tryz.f83.name, by decide, Tryz.func83.trans (congrArg some (by kernel_rfl))⟩
  f12 := ⟨Tryz.f84.name, by decide, Tryz.func84.trans (congrArg some (by kernel_rfl))⟩
  f13 := ⟨Tryz.f85.name, by decide, Tryz.func85.trans (congrArg some (by kernel_rfl))⟩
  f14 := ⟨Tryz.f86.name, by decide, Tryz.func86.trans (congrArg some (by kernel_rfl))⟩
  f15 := ⟨Tryz.f87.name, by decide, Tryz.func87.trans (congrArg some (by kernel_rfl))⟩
  f16 := ⟨Tryz.f88.name, by decide, Tryz.func88.trans (congrArg some (by kernel_rfl))⟩
  f17 := ⟨Tryz.f89.name, by decide, Tryz.func89.trans (congrArg some (by kernel_rfl))⟩
  f18 := ⟨Tryz.f90.name, by decide, Tryz.func90.trans (congrArg some (by kernel_rfl))⟩
  f19 := Tryz.func91.trans (congrArg some (by kernel_rfl))
  f20 := Tryz.func92.trans (congrArg some (by kernel_rfl))
  f30 := ⟨Tryz.f95.name, by decide, Tryz.func95.trans (congrArg some (by kernel_rfl))⟩
  f31 := Tryz.func96.trans (congrArg some (by kernel_rfl))
  f32 := Tryz.func97.trans (congrArg some (by kernel_rfl))
  f33 := ⟨Tryz.f98.name, by decide, Tryz.func98.trans (congrArg some (by kernel_rfl))⟩
  f34 := ⟨Tryz.f99.name, by decide, Tryz.func99.trans (congrArg some (by kernel_rfl))⟩
  f35 := ⟨Tryz.f100.name, by decide, Tryz.func100.trans (congrArg some (by kernel_rfl))⟩
  f40 := ⟨Tryz.f101.name, by decide, Tryz.func101.trans (congrArg some (by kernel_rfl))⟩
  t0 := Tryz.underlying0
  a0 := Tryz.isAgg0
  z0 := Tryz.sizeOf0
  v0 := Tryz.zeroValue0
  t3 := Tryz.underlying3
  a3 := Tryz.isAgg3
  z3 := Tryz.sizeOf3
  v3 := Tryz.zeroValue3
  t4 := Tryz.underlying4
  a4 := Tryz.isAgg4
  z4 := Tryz.sizeOf4
  v4 := Tryz.zeroValue4
  t5 := Tryz.underlying5
  a5 := Tryz.isAgg5
  z5 := Tryz.sizeOf5
  v5 := Tryz.zeroValue5
  t9 := Tryz.underlying9
  a9 := Tryz.isAgg9
  z9 := Tryz.sizeOf9
  v9 := Tryz.zeroValue9
  t22 := Tryz.underlying75
  a22 := Tryz.isAgg75
  z22 := Tryz.sizeOf75
  v22 := Tryz.zeroValue75
  t23 := Tryz.underlying75
  a23 := Tryz.isAgg75
  z23 := Tryz.sizeOf75
  v23 := Tryz.zeroValue75
  t25 := Tryz.underlying3
  a25 := Tryz.isAgg3
  z25 := Tryz.sizeOf3
  v25 := Tryz.zeroValue3
  t32 := Tryz.underlying69
  a32 := Tryz.isAgg69
  z32 := Tryz.sizeOf69
  v32 := Tryz.zeroValue69
  t35 := Tryz.underlying141
  a35 := Tryz.isAgg141
  z35 := Tryz.sizeOf141
  v35 := Tryz.zeroValue141
  t36 := Tryz.underlying142
  a36 := Tryz.isAgg142
  z36 := Tryz.sizeOf142
  v36 := Tryz.zeroValue142
  t41 := Tryz.underlying146
  a41 := Tryz.isAgg146
  z41 := Tryz.sizeOf146
  v41 := Tryz.zeroValue146
  t44 := Tryz.underlying149
  a44 := Tryz.isAgg149
  z44 := Tryz.sizeOf149
  v44 := Tryz.zeroValue149
  t46 := Tryz.underlying88
  a46 := Tryz.isAgg88
  z46 := Tryz.sizeOf88
  v46 := Tryz.zeroValue88
  t53 := Tryz.underlying155
  a53 := Tryz.isAgg155
  z53 := Tryz.sizeOf155
  v53 := Tryz.zeroValue155
  t57 := Tryz.underlying159
  a57 := Tryz.isAgg159
  z57 := Tryz.sizeOf159
  v57 := Tryz.zeroValue159
  t63 := Tryz.underlying172
  a63 := Tryz.isAgg172
  z63 := Tryz.sizeOf172
  v63 := Tryz.zeroValue172
  t64 := Tryz.underlying173
  a64 := Tryz.isAgg173
  z64 := Tryz.sizeOf173
  v64 := Tryz.zeroValue173 }

end
section
open Go.RowKit Go.Maps Go.Sort Go.Shelf
theorem sortsL (m : Nat) : AnyZI.SortsIn Tryz.prog sortedL_ren Fence.wide m :=
  ⟨fun blk off cap ss W hH hblk hsz => callsIn_wide.2 (AnyM.slices_Sort_int sortL blk off cap ss W hH hblk hsz),
   fun p cap W => callsIn_wide.2 (AnyM.slices_Sort_int_none sortL p cap W)⟩
theorem keysC (mb : Option Nat) (W : World) : CallsIn Fence.wide 5 Tryz.prog 35 #[.map mb] W fun e w' => e = .returned (.func (.func 62) #[] #[.pointer (some ⟨W.heap.size, 0, none⟩)]) ∧ w' = W.alloc (.cells #[.map mb] 61) :=
  AnyZI.keys_in keysL Fence.wide 5 trivial rfl mb W
set_option maxHeartbeats 1000000 in
theorem sortedC {H : Type} (b nn : Nat) (D0 : DataW H) (R : Value → Option (DataW H × List MemPlace)) (w : World) (hown : w.ownsMap Tryz.prog 3 R b nn D0) (hmax : Maps.size D0 ≤ maxLen) (hbytes : Maps.size D0 * 8 ≤ 140737488355328) :
    CallsIn Fence.wide 5 Tryz.prog 34 #[.func (.func 62) #[] #[.pointer (some ⟨w.heap.size, 0, none⟩)]] (w.alloc (.cells #[.map (some b)] 61)) fun e w' => ∃ (v : Value) (ss : List Int), e = .returned v ∧ ss.Perm (intKeys D0) ∧
      w'.ownsRow (w.alloc (.cells #[.map (some b)] 61)).heap.size 3 1 v ss.length ((ss.mergeSort (fun x y => decide (x ≤ y))).map encZ) ∧ (v = .slice none 0 0 ↔ ss = []) ∧ RowKit.Below (w.alloc (.cells #[.map (some b)] 61)).heap.size (w.alloc (.cells #[.map (some b)] 61)) w' := by
  have hbl := hown.lt
  have hseq : SeqGives Fence.wide 2 Tryz.prog 62 #[.pointer (some ⟨w.heap.size, 0, none⟩)] encZ (fun ss => ss.Perm (intKeys D0)) (Maps.size D0) (w.alloc (.cells #[.map (some b)] 61)) :=
    AnyZI.keys_gives (ρ := keysL_ren) { keysL with } Fence.wide _ trivial rfl (by omega) w.heap.size b nn D0 _ (by simp) (by simp) (by
      obtain ⟨es, clock, hb, Ft, hs, hD⟩ := hown
      exact ⟨es, clock, (Below.heap_alloc _ _ b hbl).trans hb, Ft, hs, hD⟩)
  exact AnyZI.sorted_in sortedL Fence.wide 5 trivial trivial trivial trivial rfl (by omega) (sortsL _) (enters_of Tryz.func61 rfl (by kernel_rfl)) 62 #[.pointer (some ⟨w.heap.size, 0, none⟩)] trivial (enters_of Tryz.func62 rfl (by kernel_rfl)) _ _ hmax hbytes _ hseq
theorem wfZ {a : Int} (h : -9223372036854775808 ≤ a ∧ a ≤ 9223372036854775807) : (Lit.int .i64 a).wf = true := by
  have e1 : IntKind.i64.min = -9223372036854775808 := rfl
  have e2 : IntKind.i64.max = 9223372036854775807 := rfl
  simp only [Lit.wf, Bool.and_eq_true, decide_eq_true_eq, e1, e2]
  exact h
/-- a map of mine is one of the shelf's -/
theorem ownsMap_of {w : World} {m : Nat} {ps : List (Int × Value)} (h : MapAt w m ps) (hk : ∀ p ∈ ps, -9223372036854775808 ≤ p.1 ∧ p.1 ≤ 9223372036854775807) (hl : ps.length ≤ maxLen) :
    ∃ D : DataW Unit, w.ownsMap Tryz.prog 3 (fun _ => some (.lit (.bool true), [])) m ps.length D ∧ (intKeys D).Perm (ps.map (·.1)) ∧ Maps.size D = ps.length := by
  obtain ⟨⟨es, clock, h1, h2, h3, h4⟩, h5⟩ := h
  have hlen : es.size = ps.length := by have := congrArg List.length h2; simpa using this
  have hkeys : es.toList.map (·.key) = ps.map (fun p => Value.int .i64 p.1) := by have := congrArg (List.map (·.1)) h2; rw [List.map_map, List.map_map] at this; exact this
  have hrd : ∀ x ∈ es.toList, ∃ s : Int, x.key = .int .i64 s ∧ (Lit.int .i64 s).wf = true := by
    intro x hx
    have : x.key ∈ ps.map (fun p => Value.int .i64 p.1) := by rw [← hkeys]; exact List.mem_map.2 ⟨x, hx, rfl⟩
    obtain ⟨p, hp, e⟩ := List.mem_map.1 this
    exact ⟨p.1, e.symm, wfZ (hk p hp)⟩
  have hfit : WideElems.Fit (H := Unit) Tryz.prog 3 (fun _ => some (.lit (.bool true), [])) es clock := by
    refine ⟨by omega, ⟨h4, h3, ?_⟩, ?_⟩
    · rw [hkeys]
      have : (ps.map fun p => Value.int .i64 p.1) = (ps.map (·.1)).map (Value.int .i64) := by rw [List.map_map]; rfl
      rw [this, List.Nodup, List.pairwise_map]
      exact h5.imp fun hne e => hne (by injection e)
    · intro x hx
      obtain ⟨s, e, hs⟩ := hrd x hx
      exact ⟨(.int .i64 s, .lit (.bool true)), by simp [WideElems.rd, e, keyOf_int_mk Tryz.underlying3 hs]⟩
  refine ⟨_, ⟨es, clock, h1, hfit, by omega, rfl⟩, ?_, ?_⟩
  · have hp : ((es.toList.map (WideElems.rg (H := Unit) Tryz.prog 3 fun _ => some (.lit (.bool true), []))).foldr DataW.insert []).Perm (es.toList.map (WideElems.rg Tryz.prog 3 fun _ => some (.lit (.bool true), []))) := WideShapes.sorted_perm _
    refine (hp.map (fun p => Go.intOf p.1)).trans ?_
    rw [List.map_map]
    have e : es.toList.map ((fun p => Go.intOf p.1) ∘ WideElems.rg (H := Unit) Tryz.prog 3 fun _ => some (.lit (.bool true), [])) = ps.map (·.1) := by
      have h6 : ps.map (·.1) = (es.toList.map (·.key)).map (fun v => match v with | .int _ s => s | _ => 0) := by rw [hkeys, List.map_map]; rfl
      rw [h6, List.map_map]
      refine List.map_congr_left fun x hx => ?_
      obtain ⟨s, e, hs⟩ := hrd x hx
      simp [Function.comp, WideElems.rg, WideElems.rd, e, keyOf_int_mk Tryz.underlying3 hs, Go.intOf]
    rw [e]
  · show ((es.toList.map _).foldr DataW.insert []).length = ps.length
    rw [length_sorted, List.length_map, Array.length_toList, hlen]
theorem flat_int (l : List Int) : flat l = l.map encZ := by
  induction l with
  | nil => rfl
  | cons x l ih => rw [List.map_cons, flat_cons, ih]; rfl
theorem owns_of_rowI {w : World} {B n : Nat} {v : Value} {xs : List Int} (h : w.ownsRow B 3 1 v n (flat xs)) (hn : n = xs.length) : ∃ a c, v = .slice a xs.length c ∧ OwnSl w 3 a c xs ∧ ∀ q, own a q → B ≤ q := by
  subst hn
  obtain ⟨h1, h2⟩ := h
  rcases h2 with ⟨rfl, h0⟩ | ⟨g, cap, cur, rfl, h3, h4⟩
  · have : xs = [] := List.eq_nil_of_length_eq_zero h0
    subst this
    exact ⟨none, 0, rfl, OwnSl.nil _ _, fun q h => absurd h (own_none q)⟩
  · exact ⟨some ⟨g, 0, none⟩, cap, rfl, ⟨length_flat _, .inr ⟨g, cap, cur, rfl, Nat.zero_le _, h4⟩⟩, fun q h => by rw [own_some] at h; subst h; exact h3⟩
theorem below_ext {w w' : World} (h : RowKit.Below w.heap.size w w') : Ext w w' := ⟨h.os, h.tape, h.output, h.size, fun k hk _ => h.block k hk⟩
theorem keysM (m : Nat) (w : World) : Calls Tryz.prog 35 #[.map (some m)] w (Ret fun v w' => v = .func (.func 62) #[] #[.pointer (some ⟨w.heap.size, 0, none⟩)] ∧ w' = w.alloc (.cells #[.map (some m)] 61)) :=
  (callsIn_wide.1 (keysC (some m) w)).mono fun e w' h => ⟨_, h.1, rfl, h.2⟩
theorem sort_rise {ss zs : List Int} (hp : ss.Perm zs) (hz : zs.Pairwise (· < ·)) : ss.mergeSort (fun x y => decide (x ≤ y)) = zs := by
  refine List.Perm.eq_of_pairwise (le := (· ≤ ·)) (fun a b _ _ h1 h2 => Int.le_antisymm h1 h2) ?_ (hz.imp fun h => Int.le_of_lt h) ((List.mergeSort_perm _ _).trans hp)
  refine (List.pairwise_mergeSort (le := fun x y : Int => decide (x ≤ y)) ?_ ?_ ss).imp fun h => by simpa using h
  · intro a b c h1 h2
    simp only [decide_eq_true_eq] at *
    omega
  · intro a b
    simp only [Bool.or_eq_true, decide_eq_true_eq]
    omega
theorem sortedM {ps : List (Int × Value)} (m : Nat) (w : World) (h : MapAt w m ps) (hk : ∀ p ∈ ps, -9223372036854775808 ≤ p.1 ∧ p.1 ≤ 9223372036854775807) (hl : ps.length ≤ 4294967295) (hr : (ps.map (·.1)).Pairwise (· < ·)) :
    Calls Tryz.prog 34 #[.func (.func 62) #[] #[.pointer (some ⟨w.heap.size, 0, none⟩)]] (w.alloc (.cells #[.map (some m)] 61)) (Ret fun v w' => ∃ a c, v = .slice a (ps.map (·.1)).length c ∧ OwnSl w' 3 a c (ps.map (·.1)) ∧
      (∀ q, own a q → (w.alloc (.cells #[.map (some m)] 61)).heap.size ≤ q) ∧ Ext (w.alloc (.cells #[.map (some m)] 61)) w') := by
  obtain ⟨D, h1, h2, h3⟩ := ownsMap_of h hk (by simp only [maxLen]; omega)
  refine (callsIn_wide.1 (sortedC m _ D _ w h1 (by rw [h3]; simp only [maxLen]; omega) (by rw [h3]; omega))).mono fun e w' he => ?_
  obtain ⟨v, ss, rfl, hS, hrow, -, hb⟩ := he
  have e1 : (ss.mergeSort (fun x y => decide (x ≤ y))).map encZ = flat (ps.map (·.1)) := by rw [sort_rise (hS.trans h2) hr, flat_int]
  have e2 : ss.length = (ps.map (·.1)).length := (hS.trans h2).length_eq
  obtain ⟨a, c, rfl, h4, h5⟩ := owns_of_rowI (xs := ps.map (·.1)) (by rw [← e1]; exact hrow) e2
  exact ⟨_, rfl, a, c, rfl, h4, h5, below_ext hb⟩
end




end Go.Proofs.YtdlaoncjiolckaaGreat
