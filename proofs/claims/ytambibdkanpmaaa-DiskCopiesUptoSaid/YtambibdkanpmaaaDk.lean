/-
  Files: a disk's names, rising; by the library's contracts on maps.Keys and slices.Sorted.
-/
import Derived.Shelf.SlIter.Nil
import Derived.Shelf.SortM.Plain
import Derived.Shelf.SortM.SortNone
import Derived.Ground.GgzProg
import Derived.Ground.SlgmProg
import Derived.Sort.KeysCollected
import Derived.StringKeys
import Derived.Test.YtambibdkanpmaaaRows
import Derived.Test.YtambibdkanpmaaaDh
namespace Go.Proofs.Ytambibdkanpmaaa
attribute [local irreducible] St1 RL RA RT RT1 Run

open Go.Shelf
def keysL_ren : Go.Shelf.Ren := ⟨fun | 7 => 40 | 10 => 51 | n => n, fun | 23 => 43 | 26 => 9 | 3 => 73 | 28 => 80 | 0 => 0 | 27 => 79 | 33 => 82 | 4 => 4 | n => n, fun | n => n⟩
theorem keysL : Go.Proofs.SlLaysZ.n7 Try.prog keysL_ren := {
  mixed := by kernel_rfl
  f7 := ⟨Try.f40.name, by decide, Try.func40.trans (congrArg some (by kernel_rfl))⟩
  f10 := ⟨Try.f51.name, by decide, Try.func51.trans (congrArg some (by kernel_rfl))⟩
  t0 := Try.underlying0
  a0 := Try.isAgg0
  z0 := Try.sizeOf0
  v0 := Try.zeroValue0
  t4 := Try.underlying4
  a4 := Try.isAgg4
  z4 := Try.sizeOf4
  v4 := Try.zeroValue4
  t23 := Try.underlying43
  a23 := Try.isAgg43
  z23 := Try.sizeOf43
  v23 := Try.zeroValue43
  t26 := Try.underlying9
  a26 := Try.isAgg9
  z26 := Try.sizeOf9
  v26 := Try.zeroValue9
  t27 := Try.underlying79
  a27 := Try.isAgg79
  z27 := Try.sizeOf79
  v27 := Try.zeroValue79
  t28 := Try.underlying80
  a28 := Try.isAgg80
  z28 := Try.sizeOf80
  v28 := Try.zeroValue80
  t33 := Try.underlying82
  a33 := Try.isAgg82
  z33 := Try.sizeOf82
  v33 := Try.zeroValue82 }
def sortedL_ren : Go.Shelf.Ren := ⟨fun | 6 => 39 | 8 => 49 | 9 => 50 | 11 => 59 | 13 => 61 | 12 => 60 | 23 => 76 | 24 => 77 | 14 => 67 | 15 => 68 | 16 => 69 | 17 => 70 | 18 => 71 | 19 => 72 | 20 => 73 | 21 => 74 | 22 => 75 | 25 => 78 | 26 => 79 | 27 => 80 | 28 => 81 | 29 => 82 | 30 => 83 | 31 => 84 | n => n, fun | 26 => 9 | 28 => 80 | 24 => 40 | 0 => 0 | 3 => 3 | 37 => 35 | 48 => 115 | 50 => 117 | 4 => 4 | 40 => 107 | 39 => 106 | 45 => 112 | 5 => 5 | 9 => 9 | 51 => 118 | 55 => 122 | 57 => 124 | 58 => 125 | 33 => 82 | n => n, fun | n => n⟩
theorem sortedL : Go.Proofs.SlLaysZ.n6 Try.prog sortedL_ren := {
  mixed := by kernel_rfl
  f6 := ⟨Try.f39.name, by decide, Try.func39.trans (congrArg some (by kernel_rfl))⟩
  f8 := ⟨Try.f49.name, by decide, Try.func49.trans (congrArg some (by kernel_rfl))⟩
  f11 := ⟨Try.f59.name, by decide, Try.func59.trans (congrArg some (by kernel_rfl))⟩
  t0 := Try.underlying0
  a0 := Try.isAgg0
  z0 := Try.sizeOf0
  v0 := Try.zeroValue0
  t24 := Try.underlying40
  a24 := Try.isAgg40
  z24 := Try.sizeOf40
  v24 := Try.zeroValue40
  t26 := Try.underlying9
  a26 := Try.isAgg9
  z26 := Try.sizeOf9
  v26 := Try.zeroValue9
  t28 := Try.underlying80
  a28 := Try.isAgg80
  z28 := Try.sizeOf80
  v28 := Try.zeroValue80
  i26 := by kernel_rfl }
def sortL_ren : Go.Shelf.Ren := ⟨fun | 6 => 50 | 8 => 61 | 9 => 60 | 19 => 76 | 20 => 77 | 21 => 67 | 22 => 68 | 23 => 69 | 24 => 70 | 25 => 71 | 26 => 72 | 27 => 73 | 28 => 74 | 29 => 75 | 36 => 78 | 31 => 79 | 32 => 80 | 37 => 81 | 38 => 82 | 39 => 83 | 41 => 84 | n => n, fun | 27 => 40 | 29 => 9 | 3 => 3 | 32 => 35 | 26 => 40 | 0 => 0 | 44 => 115 | 46 => 117 | 4 => 4 | 36 => 107 | 35 => 106 | 41 => 112 | 5 => 5 | 9 => 9 | 53 => 118 | 57 => 122 | 63 => 124 | 64 => 125 | n => n, fun | n => n⟩
theorem sortL : Go.Proofs.SlLaysM.n6 Try.prog sortL_ren := {
  mixed := by kernel_rfl
  f6 := ⟨Try.f50.name, by decide, Try.func50.trans (congrArg some (by kernel_rfl))⟩
  f8 := Try.func61.trans (congrArg some (by kernel_rfl))
  f9 := ⟨Try.f60.name, by decide, Try.func60.trans (congrArg some (by kernel_rfl))⟩
  f19 := Try.func76.trans (congrArg some (by kernel_rfl))
  f20 := Try.func77.trans (congrArg some (by kernel_rfl))
  f21 := ⟨Try.f67.name, by decide, Try.func67.trans (congrArg some (by kernel_rfl))⟩
  f22 := ⟨Try.f68.name, by decide, Try.func68.trans (congrArg some (by kernel_rfl))⟩
  f23 := ⟨Try.f69.name, by decide, Try.func69.trans (congrArg some (by kernel_rfl))⟩
  f24 := ⟨Try.f70.name, by decide, Try.func70.trans (congrArg some (by kernel_rfl))⟩
  f25 := ⟨Try.f71.name, by decide, Try.func71.trans (congrArg some (by kernel_rfl))⟩
  f26 := ⟨Try.f72.name, by decide, Try.func72.trans (congrArg some (by kernel_rfl))⟩
  f27 := ⟨Try.f73.name, by decide, Try.func73.trans (congrArg some (by kernel_rfl))⟩
  f28 := ⟨Try.f74.name, by decide, Try.func74.trans (congrArg some (by kernel_rfl))⟩
  f29 := ⟨Try.f75.name, by decide, Try.func75.trans (congrArg some (by kernel_rfl))⟩
  f31 := Try.func79.trans (congrArg some (by kernel_rfl))
  f32 := Try.func80.trans (congrArg some (by kernel_rfl))
  f36 := ⟨Try.f78.name, by decide, Try.func78.trans (congrArg some (by kernel_rfl))⟩
  f37 := ⟨Try.f81.name, by decide, Try.func81.trans (congrArg some (by kernel_rfl))⟩
  f38 := ⟨Try.f82.name, by decide, Try.func82.trans (congrArg some (by kernel_rfl))⟩
  f39 := ⟨Try.f83.name, by decide, Try.func83.trans (congrArg some (by kernel_rfl))⟩
  f41 := ⟨Try.f84.name, by decide, Try.func84.trans (congrArg some (by kernel_rfl))⟩
  t0 := Try.underlying0
  a0 := Try.isAgg0
  z0 := Try.sizeOf0
  v0 := Try.zeroValue0
  t3 := Try.underlying3
  a3 := Try.isAgg3
  z3 := Try.sizeOf3
  v3 := Try.zeroValue3
  t4 := Try.underlying4
  a4 := Try.isAgg4
  z4 := Try.sizeOf4
  v4 := Try.zeroValue4
  t5 := Try.underlying5
  a5 := Try.isAgg5
  z5 := Try.sizeOf5
  v5 := Try.zeroValue5
  t9 := Try.underlying9
  a9 := Try.isAgg9
  z9 := Try.sizeOf9
  v9 := Try.zeroValue9
  t26 := Try.underlying40
  a26 := Try.isAgg40
  z26 := Try.sizeOf40
  v26 := Try.zeroValue40
  t27 := Try.underlying40
  a27 := Try.isAgg40
  z27 := Try.sizeOf40
  v27 := Try.zeroValue40
  t29 := Try.underlying9
  a29 := Try.isAgg9
  z29 := Try.sizeOf9
  v29 := Try.zeroValue9
  t32 := Try.underlying35
  a32 := Try.isAgg35
  z32 := Try.sizeOf35
  v32 := Try.zeroValue35
  t35 := Try.underlying106
  a35 := Try.isAgg106
  z35 := Try.sizeOf106
  v35 := Try.zeroValue106
  t36 := Try.underlying107
  a36 := Try.isAgg107
  z36 := Try.sizeOf107
  v36 := Try.zeroValue107
  t41 := Try.underlying112
  a41 := Try.isAgg112
  z41 := Try.sizeOf112
  v41 := Try.zeroValue112
  t44 := Try.underlying115
  a44 := Try.isAgg115
  z44 := Try.sizeOf115
  v44 := Try.zeroValue115
  t46 := Try.underlying117
  a46 := Try.isAgg117
  z46 := Try.sizeOf117
  v46 := Try.zeroValue117
  t53 := Try.underlying118
  a53 := Try.isAgg118
  z53 := Try.sizeOf118
  v53 := Try.zeroValue118
  t57 := Try.underlying122
  a57 := Try.isAgg122
  z57 := Try.sizeOf122
  v57 := Try.zeroValue122
  t63 := Try.underlying124
  a63 := Try.isAgg124
  z63 := Try.sizeOf124
  v63 := Try.zeroValue124
  t64 := Try.underlying125
  a64 := Try.isAgg125
  z64 := Try.sizeOf125
  v64 := Try.zeroValue125 }

open Go.RowKit Go.Maps Go.Sort
theorem sortsL (m : Nat) : AnyZ.SortsIn Try.prog sortedL_ren Fence.wide m :=
  ⟨fun blk off cap ss W hH hblk hsz => callsIn_wide.2 (AnyM.slices_Sort_string sortL blk off cap ss W hH hblk hsz),
   fun p cap W => callsIn_wide.2 (AnyM.slices_Sort_string_none sortL p cap W)⟩
theorem keysC (mb : Option Nat) (W : World) : CallsIn Fence.wide 5 Try.prog 40 #[.map mb] W fun e w' => e = .returned (.func (.func 51) #[] #[.pointer (some ⟨W.heap.size, 0, none⟩)]) ∧ w' = W.alloc (.cells #[.map mb] 43) :=
  AnyZ.keys_in keysL Fence.wide 5 trivial rfl mb W
set_option maxHeartbeats 1000000 in
theorem sortedC {H : Type} (b nn : Nat) (D0 : DataW H) (R : Value → Option (DataW H × List MemPlace)) (w : World) (hown : w.ownsMap Try.prog 9 R b nn D0) (hmax : Maps.size D0 ≤ maxLen) (hbytes : Maps.size D0 * 16 ≤ 140737488355328) :
    CallsIn Fence.wide 5 Try.prog 39 #[.func (.func 51) #[] #[.pointer (some ⟨w.heap.size, 0, none⟩)]] (w.alloc (.cells #[.map (some b)] 43)) fun e w' => ∃ (v : Value) (ss : List (List UInt8)), e = .returned v ∧ ss.Perm (strKeys D0) ∧
      w'.ownsRow (w.alloc (.cells #[.map (some b)] 43)).heap.size 9 1 v ss.length ((ss.mergeSort (fun x y => decide (x ≤ y))).map encStr) ∧ (v = .slice none 0 0 ↔ ss = []) ∧ RowKit.Below (w.alloc (.cells #[.map (some b)] 43)).heap.size (w.alloc (.cells #[.map (some b)] 43)) w' := by
  have hbl := hown.lt
  have hseq : SeqGives Fence.wide 2 Try.prog 51 #[.pointer (some ⟨w.heap.size, 0, none⟩)] encStr (fun ss => ss.Perm (strKeys D0)) (Maps.size D0) (w.alloc (.cells #[.map (some b)] 43)) :=
    AnyZ.keys_gives (ρ := keysL_ren) { keysL with } Fence.wide _ trivial rfl (by omega) w.heap.size b nn D0 _ (by simp) (by simp) (by
      obtain ⟨es, clock, hb, Ft, hs, hD⟩ := hown
      exact ⟨es, clock, (Below.heap_alloc _ _ b hbl).trans hb, Ft, hs, hD⟩)
  exact AnyZ.sorted_in sortedL Fence.wide 5 trivial trivial trivial trivial rfl (by omega) (sortsL _) (enters_of Try.func50 rfl (by kernel_rfl)) 51 #[.pointer (some ⟨w.heap.size, 0, none⟩)] trivial (enters_of Try.func51 rfl (by kernel_rfl)) _ _ hmax hbytes _ hseq
/-- a map of mine is one of the shelf's -/
theorem ownsMap_of {w : World} {m : Nat} {ps : List (ByteArray × Value)} (h : MapAt w m ps) (hk : ∀ p ∈ ps, p.1.size ≤ maxLen) (hl : ps.length ≤ maxLen) :
    ∃ D : DataW Unit, w.ownsMap Try.prog 9 (fun _ => some (.lit (.bool true), [])) m ps.length D ∧ (strKeys D).Perm (ps.map (·.1.data.toList)) ∧ Maps.size D = ps.length := by
  obtain ⟨⟨es, clock, h1, h2, h3, h4⟩, h5⟩ := h
  have hlen : es.size = ps.length := by have := congrArg List.length h2; simpa using this
  have hkeys : es.toList.map (·.key) = ps.map (fun p => Value.string p.1) := by have := congrArg (List.map (·.1)) h2; rw [List.map_map, List.map_map] at this; exact this
  have hrd : ∀ x ∈ es.toList, ∃ s : ByteArray, x.key = .string s ∧ s.size ≤ maxLen := by
    intro x hx
    have : x.key ∈ ps.map (fun p => Value.string p.1) := by rw [← hkeys]; exact List.mem_map.2 ⟨x, hx, rfl⟩
    obtain ⟨p, hp, e⟩ := List.mem_map.1 this
    exact ⟨p.1, e.symm, hk p hp⟩
  have hfit : WideElems.Fit (H := Unit) Try.prog 9 (fun _ => some (.lit (.bool true), [])) es clock := by
    refine ⟨by omega, ⟨h4, h3, ?_⟩, ?_⟩
    · rw [hkeys]
      have : (ps.map fun p => Value.string p.1) = (ps.map (·.1)).map Value.string := by rw [List.map_map]; rfl
      rw [this, List.Nodup, List.pairwise_map]
      exact h5.imp fun hne e => hne (by injection e)
    · intro x hx
      obtain ⟨s, e, hs⟩ := hrd x hx
      exact ⟨(.string s.data.toList, .lit (.bool true)), by simp [WideElems.rd, e, WideMaps.keyOf_string_mk Try.underlying9 hs]⟩
  refine ⟨_, ⟨es, clock, h1, hfit, by omega, rfl⟩, ?_, ?_⟩
  · have hp : ((es.toList.map (WideElems.rg (H := Unit) Try.prog 9 fun _ => some (.lit (.bool true), []))).foldr DataW.insert []).Perm (es.toList.map (WideElems.rg Try.prog 9 fun _ => some (.lit (.bool true), []))) := WideShapes.sorted_perm _
    refine (hp.map (fun p => strOf p.1)).trans ?_
    rw [List.map_map]
    have e : es.toList.map ((fun p => strOf p.1) ∘ WideElems.rg (H := Unit) Try.prog 9 fun _ => some (.lit (.bool true), [])) = ps.map (·.1.data.toList) := by
      have h6 : ps.map (·.1.data.toList) = (es.toList.map (·.key)).map (fun v => match v with | .string s => s.data.toList | _ => []) := by rw [hkeys, List.map_map]; rfl
      rw [h6, List.map_map]
      refine List.map_congr_left fun x hx => ?_
      obtain ⟨s, e, hs⟩ := hrd x hx
      simp [Function.comp, WideElems.rg, WideElems.rd, e, WideMaps.keyOf_string_mk Try.underlying9 hs, strOf]
    rw [e]
  · show ((es.toList.map _).foldr DataW.insert []).length = ps.length
    rw [length_sorted, List.length_map, Array.length_toList, hlen]
/-- names, rising -/
def sortN (l : List ByteArray) : List ByteArray := ((l.map (·.data.toList)).mergeSort leB).map (fun b => ⟨b.toArray⟩)
def namesS (pl : List PF) : List ByteArray := sortN (pl.map (·.name))
theorem sortN_perm {l l' : List ByteArray} (p : l.Perm l') : sortN l = sortN l' := by rw [sortN, sortN, mergeSort_of_perm (p.map _)]
theorem namesS_perm {pl pl' : List PF} (p : pl.Perm pl') : namesS pl = namesS pl' := sortN_perm (p.map _)
theorem data_back (s : ByteArray) : (⟨s.data.toList.toArray⟩ : ByteArray) = s := by cases s; simp
theorem sortN_mem {l : List ByteArray} : (sortN l).Perm l := by
  unfold sortN
  refine ((List.mergeSort_perm _ _).map _).trans ?_
  rw [List.map_map]
  have : ((fun b => (⟨b.toArray⟩ : ByteArray)) ∘ fun (s : ByteArray) => s.data.toList) = id := funext fun s => data_back s
  rw [this, List.map_id]
theorem flat_str (l : List (List UInt8)) : flat (l.map fun b => (⟨b.toArray⟩ : ByteArray)) = l.map encStr := by
  induction l with
  | nil => rfl
  | cons x l ih => rw [List.map_cons, flat_cons, ih]; rfl
theorem owns_of_row {w : World} {B n : Nat} {v : Value} {xs : List ByteArray} (h : w.ownsRow B 9 1 v n (flat xs)) (hn : n = xs.length) : ∃ a c, v = .slice a xs.length c ∧ OwnSl w 9 a c xs ∧ ∀ q, own a q → B ≤ q := by
  subst hn
  obtain ⟨h1, h2⟩ := h
  rcases h2 with ⟨rfl, h0⟩ | ⟨g, cap, cur, rfl, h3, h4⟩
  · have : xs = [] := List.eq_nil_of_length_eq_zero h0
    subst this
    exact ⟨none, 0, rfl, OwnSl.nil _ _, fun q h => absurd h (own_none q)⟩
  · exact ⟨some ⟨g, 0, none⟩, cap, rfl, ⟨length_flat _, .inr ⟨g, cap, cur, rfl, Nat.zero_le _, h4⟩⟩, fun q h => by rw [own_some] at h; subst h; exact h3⟩
theorem below_ext {w w' : World} (h : RowKit.Below w.heap.size w w') : Ext w w' := ⟨h.os, h.tape, h.output, h.size, fun k hk _ => h.block k hk⟩
theorem keysM (m : Nat) (w : World) : Calls Try.prog 40 #[.map (some m)] w (Ret fun v w' => v = .func (.func 51) #[] #[.pointer (some ⟨w.heap.size, 0, none⟩)] ∧ w' = w.alloc (.cells #[.map (some m)] 43)) :=
  (callsIn_wide.1 (keysC (some m) w)).mono fun e w' h => ⟨_, h.1, rfl, h.2⟩
theorem sortedM {ps : List (ByteArray × Value)} (m : Nat) (w : World) (h : MapAt w m ps) (hk : ∀ p ∈ ps, p.1.size ≤ 4294967295) (hl : ps.length ≤ 4294967295) :
    Calls Try.prog 39 #[.func (.func 51) #[] #[.pointer (some ⟨w.heap.size, 0, none⟩)]] (w.alloc (.cells #[.map (some m)] 43)) (Ret fun v w' => ∃ a c, v = .slice a (sortN (ps.map (·.1))).length c ∧ OwnSl w' 9 a c (sortN (ps.map (·.1))) ∧
      (∀ q, own a q → (w.alloc (.cells #[.map (some m)] 43)).heap.size ≤ q) ∧ Ext (w.alloc (.cells #[.map (some m)] 43)) w') := by
  obtain ⟨D, h1, h2, h3⟩ := ownsMap_of h (fun p hp => by have := hk p hp; simp only [maxLen]; omega) (by simp only [maxLen]; omega)
  refine (callsIn_wide.1 (sortedC m _ D _ w h1 (by rw [h3]; simp only [maxLen]; omega) (by rw [h3]; omega))).mono fun e w' he => ?_
  obtain ⟨v, ss, rfl, hS, hrow, -, hb⟩ := he
  have e1 : (ss.mergeSort leB).map encStr = flat (sortN (ps.map (·.1))) := by
    rw [mergeSort_of_perm (hS.trans h2), sortN, flat_str, List.map_map]; rfl
  have e2 : ss.length = (sortN (ps.map (·.1))).length := by rw [hS.length_eq, h2.length_eq, sortN_mem.length_eq]; simp
  obtain ⟨a, c, rfl, h4, h5⟩ := owns_of_row (xs := sortN (ps.map (·.1))) (by rw [← e1]; exact hrow) e2
  exact ⟨_, rfl, a, c, rfl, h4, h5, below_ext hb⟩

theorem en39 : Enters Try.prog 39 := enters_of Try.func39 rfl (by kernel_rfl)
theorem en40 : Enters Try.prog 40 := enters_of Try.func40 rfl (by kernel_rfl)

set_option maxRecDepth 100000 in
set_option maxHeartbeats 4000000 in
theorem files_ (d m : Nat) (room : Int) (fs : List FileS) (w : World) (hD : DiskO w d m room fs) :
    Calls Try.prog 17 #[.pointer (some ⟨d, 0, none⟩)] w (Ret (fun v w' => ∃ a c, v = .slice a (sortN ((ents fs).map (·.1))).length c ∧ OwnSl w' 9 a c (sortN ((ents fs).map (·.1))) ∧ (∀ q, own a q → w.heap.size ≤ q) ∧ Ext w w')) := by
  obtain ⟨hB, hM, hF, hmd, hfd, hfm, hok⟩ := hD
  have hnd := DiskO.names hok
  have hlens := PLOk.lens hok
  have hroom := hok.room
  have hused := hok.used
  have hcnt := hok.len
  rw [List.length_map] at hcnt
  have hel : (ents fs).length = fs.length := List.length_map ..
  have hks : ∀ p ∈ ents fs, p.1.size ≤ 4294967295 := by
    intro p hp
    obtain ⟨f, hf, rfl⟩ := List.mem_map.1 hp
    have := hok.may f.p (List.mem_map.2 ⟨f, hf, rfl⟩)
    simp only [mayN, Bool.and_eq_true, decide_eq_true_eq] at this
    have h2 : f.p.name = f.name := rfl
    rw [h2] at this
    show f.name.size ≤ 4294967295
    omega
  refine calls_run (n := 12) Try.func17 rfl rfl rfl ?_
  refine Run.seq ?_
  refine Run.region ?_
  refine RL.val (x_assignSl rfl) ?_
  refine RL.nil ?_
  refine Run.seq ?_
  refine Run.seq ?_
  refine Run.region ?_
  refine RL.val (x_moveP rfl) ?_
  refine RL.st rfl <| St1.call (vals := [.pointer (some ⟨d, 0, none⟩)]) en38 rfl (made_ d m room fs _ (⟨hB, hM, hF, hmd, hfd, hfm, hok⟩ : DiskO _ d m room fs)) ?_
  rintro _ _ ⟨rfl, rfl⟩
  refine RL.val (x_not rfl) ?_
  refine RL.nil ?_
  refine Run.condF rfl ?_
  refine Run.skip ?_
  refine Run.seq ?_
  refine Run.region ?_
  refine RL.val (x_moveP rfl) ?_
  refine RL.val (x_nilCheck rfl) ?_
  refine RL.val (x_fld (o' := 0) Try.underlying45 rfl ty43 rfl rfl rfl) ?_
  refine RL.val (x_ld (v := .map (some m)) ty43 rfl rfl (hB.cl.field (i := 0) rfl)) ?_
  refine RL.st rfl <| St1.call (vals := [.map (some m)]) en40 rfl (keysM m _) ?_
  rintro _ _ ⟨rfl, rfl⟩
  have hM0 := hM
  have K_1 : Ext w (w.alloc (.cells #[.map (some m)] 43)) := Ext.push _ _
  replace hB := hB.ext K_1
  replace hM := hM.ext K_1
  replace hF := hF.ext K_1
  have K0 := (K_1 : Ext w _)
  refine RL.st rfl <| St1.call (vals := [.func (.func 51) #[] #[.pointer (some ⟨w.heap.size, 0, none⟩)]]) en39 rfl (sortedM m w hM0 hks (by omega)) ?_
  rintro _ w_4 ⟨a_2, c_3, rfl, ho_5, hg_6, K_7⟩
  have pr_8 : ¬ own a_2 d := notNew hg_6 hB.lt
  have pr_9 : ∀ q_, own a_2 q_ → ¬ one m q_ := apartNew hg_6 hM.own_lt
  have pr_10 : ∀ q_, own a_2 q_ → ¬ filesS fs q_ := apartNew hg_6 hF.own_lt
  have pg_11 : ∀ q_, own a_2 q_ → w.heap.size ≤ q_ := fun q_ h => Nat.le_trans K0.size (hg_6 q_ h)
  clear hg_6
  replace hB := hB.ext K_7
  replace hM := hM.ext K_7
  replace hF := hF.ext K_7
  replace K0 := K0.ext K_7
  refine RL.val (x_assignSl rfl) ?_
  refine RL.nil ?_
  refine Run.ret1 (v := .slice (a_2) ((sortN ((ents fs).map (·.1))).length) (c_3)) Try.func17 rfl rfl ?_
  exact ⟨_, rfl, a_2, c_3, rfl, ho_5, pg_11, K0⟩

theorem filesD {w : World} {d : Nat} {F : Nat → Prop} {room : Int} {pl : List PF} (h : DiskAt w d F room pl) : Calls Try.prog 17 #[.pointer (some ⟨d, 0, none⟩)] w (Ret fun v w' => ∃ a c, v = .slice a (namesS pl).length c ∧ OwnSl w' 9 a c (namesS pl) ∧ (∀ q, own a q → w.heap.size ≤ q) ∧ Ext w w') := by
  obtain ⟨m, fs, rfl, hp, hO⟩ := h
  have e : sortN ((ents fs).map (·.1)) = namesS pl := by rw [ents_keys, ← pl_keys]; exact namesS_perm hp
  have := files_ d m room fs w hO
  rwa [e] at this

end Go.Proofs.Ytambibdkanpmaaa
