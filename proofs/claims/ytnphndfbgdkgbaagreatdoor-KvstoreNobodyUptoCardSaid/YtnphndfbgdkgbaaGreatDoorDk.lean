/-
  Files: a disk's names, rising; by the library's contracts on maps.Keys and slices.Sorted.
-/
import Derived.Shelf.SlIter.Nil
import Derived.Shelf.SortM.Plain
import Derived.Shelf.SortM.SortNone
import Derived.Ground.GgzProg
import Derived.Ground.SlgmProg
import Derived.Sort.KeysCollected
import Derived.StringKeys
import Derived.Test.YtnphndfbgdkgbaaGreatDoorRows
import Derived.Test.YtnphndfbgdkgbaaGreatDoorDg
namespace Go.Proofs.YtnphndfbgdkgbaaGreatDoor
attribute [local irreducible] St1 RL RA RT RT1 Run

open Go.Shelf
def keysL_ren : Go.Shelf.Ren := ⟨fun | 7 => 217 | 10 => 257 | n => n, fun | 23 => 150 | 26 => 9 | 3 => 180 | 28 => 97 | 0 => 0 | 27 => 96 | 33 => 69 | 4 => 4 | n => n, fun | n => n⟩
theorem keysL : Go.Proofs.SlLaysZ.n7 Tryz.prog keysL_ren := {
  mixed := by kernel_rfl
  f7 := ⟨Tryz.f217.name, by decide, Tryz.func217.trans (congrArg some (by kernel_rfl))⟩
  f10 := ⟨Tryz.f257.name, by decide, Tryz.func257.trans (congrArg some (by kernel_rfl))⟩
  t0 := Tryz.underlying0
  a0 := Tryz.isAgg0
  z0 := Tryz.sizeOf0
  v0 := Tryz.zeroValue0
  t4 := Tryz.underlying4
  a4 := Tryz.isAgg4
  z4 := Tryz.sizeOf4
  v4 := Tryz.zeroValue4
  t23 := Tryz.underlying150
  a23 := Tryz.isAgg150
  z23 := Tryz.sizeOf150
  v23 := Tryz.zeroValue150
  t26 := Tryz.underlying9
  a26 := Tryz.isAgg9
  z26 := Tryz.sizeOf9
  v26 := Tryz.zeroValue9
  t27 := Tryz.underlying96
  a27 := Tryz.isAgg96
  z27 := Tryz.sizeOf96
  v27 := Tryz.zeroValue96
  t28 := Tryz.underlying97
  a28 := Tryz.isAgg97
  z28 := Tryz.sizeOf97
  v28 := Tryz.zeroValue97
  t33 := Tryz.underlying69
  a33 := Tryz.isAgg69
  z33 := Tryz.sizeOf69
  v33 := Tryz.zeroValue69 }
def sortedL_ren : Go.Shelf.Ren := ⟨fun | 6 => 44 | 8 => 87 | 9 => 88 | 11 => 127 | 13 => 129 | 12 => 128 | 23 => 179 | 24 => 180 | 14 => 170 | 15 => 171 | 16 => 172 | 17 => 173 | 18 => 174 | 19 => 175 | 20 => 176 | 21 => 177 | 22 => 178 | 25 => 224 | 26 => 225 | 27 => 226 | 28 => 227 | 29 => 228 | 30 => 229 | 31 => 277 | n => n, fun | 26 => 9 | 28 => 97 | 24 => 57 | 0 => 0 | 3 => 3 | 37 => 186 | 48 => 25 | 50 => 107 | 4 => 4 | 40 => 232 | 39 => 231 | 45 => 136 | 5 => 5 | 9 => 9 | 51 => 274 | 55 => 278 | 57 => 314 | 58 => 315 | 33 => 69 | n => n, fun | n => n⟩
theorem sortedL : Go.Proofs.SlLaysZ.n6 Tryz.prog sortedL_ren := {
  mixed := by kernel_rfl
  f6 := ⟨Tryz.f44.name, by decide, Tryz.func44.trans (congrArg some (by kernel_rfl))⟩
  f8 := ⟨Tryz.f87.name, by decide, Tryz.func87.trans (congrArg some (by kernel_rfl))⟩
  f11 := ⟨Tryz.f127.name, by decide, Tryz.func127.trans (congrArg some (by kernel_rfl))⟩
  t0 := Tryz.underlying0
  a0 := Tryz.isAgg0
  z0 := Tryz.sizeOf0
  v0 := Tryz.zeroValue0
  t24 := Tryz.underlying57
  a24 := Tryz.isAgg57
  z24 := Tryz.sizeOf57
  v24 := Tryz.zeroValue57
  t26 := Tryz.underlying9
  a26 := Tryz.isAgg9
  z26 := Tryz.sizeOf9
  v26 := Tryz.zeroValue9
  t28 := Tryz.underlying97
  a28 := Tryz.isAgg97
  z28 := Tryz.sizeOf97
  v28 := Tryz.zeroValue97
  i26 := by kernel_rfl }
def sortL_ren : Go.Shelf.Ren := ⟨fun | 6 => 88 | 8 => 129 | 9 => 128 | 19 => 179 | 20 => 180 | 21 => 170 | 22 => 171 | 23 => 172 | 24 => 173 | 25 => 174 | 26 => 175 | 27 => 176 | 28 => 177 | 29 => 178 | 36 => 224 | 31 => 225 | 32 => 226 | 37 => 227 | 38 => 228 | 39 => 229 | 41 => 277 | n => n, fun | 27 => 57 | 29 => 9 | 3 => 3 | 32 => 186 | 26 => 57 | 0 => 0 | 44 => 25 | 46 => 107 | 4 => 4 | 36 => 232 | 35 => 231 | 41 => 136 | 5 => 5 | 9 => 9 | 53 => 274 | 57 => 278 | 63 => 314 | 64 => 315 | n => n, fun | n => n⟩
theorem sortL : Go.Proofs.SlLaysM.n6 Tryz.prog sortL_ren := {
  mixed := by kernel_rfl
  f6 := ⟨Tryz.f88.name, by decide, Tryz.func88.trans (congrArg some (by kernel_rfl))⟩
  f8 := Tryz.func129.trans (congrArg some (by kernel_rfl))
  f9 := ⟨Tryz.f128.name, by decide, Tryz.func128.trans (congrArg some (by kernel_rfl))⟩
  f19 := Tryz.func179.trans (congrArg some (by kernel_rfl))
  f20 := Tryz.func180.trans (congrArg some (by kernel_rfl))
  f21 := ⟨Tryz.f170.name, by decide, Tryz.func170.trans (congrArg some (by kernel_rfl))⟩
  f22 := ⟨Tryz.f171.name, by decide, Tryz.func171.trans (congrArg some (by kernel_rfl))⟩
  f23 := ⟨Tryz.f172.name, by decide, Tryz.func172.trans (congrArg some (by kernel_rfl))⟩
  f24 := ⟨Tryz.f173.name, by decide, Tryz.func173.trans (congrArg some (by kernel_rfl))⟩
  f25 := ⟨Tryz.f174.name, by decide, Tryz.func174.trans (congrArg some (by kernel_rfl))⟩
  f26 := ⟨Tryz.f175.name, by decide, Tryz.func175.trans (congrArg some (by kernel_rfl))⟩
  f27 := ⟨Tryz.f176.name, by decide, Tryz.func176.trans (congrArg some (by kernel_rfl))⟩
  f28 := ⟨Tryz.f177.name, by decide, Tryz.func177.trans (congrArg some (by kernel_rfl))⟩
  f29 := ⟨Tryz.f178.name, by decide, Tryz.func178.trans (congrArg some (by kernel_rfl))⟩
  f31 := Tryz.func225.trans (congrArg some (by kernel_rfl))
  f32 := Tryz.func226.trans (congrArg some (by kernel_rfl))
  f36 := ⟨Tryz.f224.name, by decide, Tryz.func224.trans (congrArg some (by kernel_rfl))⟩
  f37 := ⟨Tryz.f227.name, by decide, Tryz.func227.trans (congrArg some (by kernel_rfl))⟩
  f38 := ⟨Tryz.f228.name, by decide, Tryz.func228.trans (congrArg some (by kernel_rfl))⟩
  f39 := ⟨Tryz.f229.name, by decide, Tryz.func229.trans (congrArg some (by kernel_rfl))⟩
  f41 := ⟨Tryz.f277.name, by decide, Tryz.func277.trans (congrArg some (by kernel_rfl))⟩
  t0 := Tryz.underlying0
  a0 := Tryz.isAgg0
  z0 := Tryz.sizeOf0
  v0 := Tryz.zeroValue0
  t3 := Tryz.underlying3
  a3 := Tryz.isAgg3
  z3 := Tryz.sizeOf3
  v3 := Tryz.zeroValue3
  t4 := Tryz.underlying4
  a4 := Tryz.isAgg4
  z4 := Tryz.sizeOf4
  v4 := Tryz.zeroValue4
  t5 := Tryz.underlying5
  a5 := Tryz.isAgg5
  z5 := Tryz.sizeOf5
  v5 := Tryz.zeroValue5
  t9 := Tryz.underlying9
  a9 := Tryz.isAgg9
  z9 := Tryz.sizeOf9
  v9 := Tryz.zeroValue9
  t26 := Tryz.underlying57
  a26 := Tryz.isAgg57
  z26 := Tryz.sizeOf57
  v26 := Tryz.zeroValue57
  t27 := Tryz.underlying57
  a27 := Tryz.isAgg57
  z27 := Tryz.sizeOf57
  v27 := Tryz.zeroValue57
  t29 := Tryz.underlying9
  a29 := Tryz.isAgg9
  z29 := Tryz.sizeOf9
  v29 := Tryz.zeroValue9
  t32 := Tryz.underlying186
  a32 := Tryz.isAgg186
  z32 := Tryz.sizeOf186
  v32 := Tryz.zeroValue186
  t35 := Tryz.underlying231
  a35 := Tryz.isAgg231
  z35 := Tryz.sizeOf231
  v35 := Tryz.zeroValue231
  t36 := Tryz.underlying232
  a36 := Tryz.isAgg232
  z36 := Tryz.sizeOf232
  v36 := Tryz.zeroValue232
  t41 := Tryz.underlying136
  a41 := Tryz.isAgg136
  z41 := Tryz.sizeOf136
  v41 := Tryz.zeroValue136
  t44 := Tryz.underlying25
  a44 := Tryz.isAgg25
  z44 := Tryz.sizeOf25
  v44 := Tryz.zeroValue25
  t46 := Tryz.underlying107
  a46 := Tryz.isAgg107
  z46 := Tryz.sizeOf107
  v46 := Tryz.zeroValue107
  t53 := Tryz.underlying274
  a53 := Tryz.isAgg274
  z53 := Tryz.sizeOf274
  v53 := Tryz.zeroValue274
  t57 := Tryz.underlying278
  a57 := Tryz.isAgg278
  z57 := Tryz.sizeOf278
  v57 := Tryz.zeroValue278
  t63 := Tryz.underlying314
  a63 := Tryz.isAgg314
  z63 := Tryz.sizeOf314
  v63 := Tryz.zeroValue314
  t64 := Tryz.underlying315
  a64 := Tryz.isAgg315
  z64 := Tryz.sizeOf315
  v64 := Tryz.zeroValue315 }

open Go.RowKit Go.Maps Go.Sort
theorem sortsL (m : Nat) : AnyZ.SortsIn Tryz.prog sortedL_ren Fence.wide m :=
  ⟨fun blk off cap ss W hH hblk hsz => callsIn_wide.2 (AnyM.slices_Sort_string sortL blk off cap ss W hH hblk hsz),
   fun p cap W => callsIn_wide.2 (AnyM.slices_Sort_string_none sortL p cap W)⟩
theorem keysC (mb : Option Nat) (W : World) : CallsIn Fence.wide 5 Tryz.prog 217 #[.map mb] W fun e w' => e = .returned (.func (.func 257) #[] #[.pointer (some ⟨W.heap.size, 0, none⟩)]) ∧ w' = W.alloc (.cells #[.map mb] 150) :=
  AnyZ.keys_in keysL Fence.wide 5 trivial rfl mb W
set_option maxHeartbeats 1000000 in
theorem sortedC {H : Type} (b nn : Nat) (D0 : DataW H) (R : Value → Option (DataW H × List MemPlace)) (w : World) (hown : w.ownsMap Tryz.prog 9 R b nn D0) (hmax : Maps.size D0 ≤ maxLen) (hbytes : Maps.size D0 * 16 ≤ 140737488355328) :
    CallsIn Fence.wide 5 Tryz.prog 44 #[.func (.func 257) #[] #[.pointer (some ⟨w.heap.size, 0, none⟩)]] (w.alloc (.cells #[.map (some b)] 150)) fun e w' => ∃ (v : Value) (ss : List (List UInt8)), e = .returned v ∧ ss.Perm (strKeys D0) ∧
      w'.ownsRow (w.alloc (.cells #[.map (some b)] 150)).heap.size 9 1 v ss.length ((ss.mergeSort (fun x y => decide (x ≤ y))).map encStr) ∧ (v = .slice none 0 0 ↔ ss = []) ∧ RowKit.Below (w.alloc (.cells #[.map (some b)] 150)).heap.size (w.alloc (.cells #[.map (some b)] 150)) w' := by
  have hbl := hown.lt
  have hseq : SeqGives Fence.wide 2 Tryz.prog 257 #[.pointer (some ⟨w.heap.size, 0, none⟩)] encStr (fun ss => ss.Perm (strKeys D0)) (Maps.size D0) (w.alloc (.cells #[.map (some b)] 150)) :=
    AnyZ.keys_gives (ρ := keysL_ren) { keysL with } Fence.wide _ trivial rfl (by omega) w.heap.size b nn D0 _ (by simp) (by simp) (by
      obtain ⟨es, clock, hb, Ft, hs, hD⟩ := hown
      exact ⟨es, clock, (Below.heap_alloc _ _ b hbl).trans hb, Ft, hs, hD⟩)
  exact AnyZ.sorted_in sortedL Fence.wide 5 trivial trivial trivial trivial rfl (by omega) (sortsL _) (enters_of Tryz.func88 rfl (by kernel_rfl)) 257 #[.pointer (some ⟨w.heap.size, 0, none⟩)] trivial (enters_of Tryz.func257 rfl (by kernel_rfl)) _ _ hmax hbytes _ hseq
/-- a map of mine is one of the shelf's -/
theorem ownsMap_of {w : World} {m : Nat} {ps : List (ByteArray × Value)} (h : MapAt w m ps) (hk : ∀ p ∈ ps, p.1.size ≤ maxLen) (hl : ps.length ≤ maxLen) :
    ∃ D : DataW Unit, w.ownsMap Tryz.prog 9 (fun _ => some (.lit (.bool true), [])) m ps.length D ∧ (strKeys D).Perm (ps.map (·.1.data.toList)) ∧ Maps.size D = ps.length := by
  obtain ⟨⟨es, clock, h1, h2, h3, h4⟩, h5⟩ := h
  have hlen : es.size = ps.length := by have := congrArg List.length h2; simpa using this
  have hkeys : es.toList.map (·.key) = ps.map (fun p => Value.string p.1) := by have := congrArg (List.map (·.1)) h2; rw [List.map_map, List.map_map] at this; exact this
  have hrd : ∀ x ∈ es.toList, ∃ s : ByteArray, x.key = .string s ∧ s.size ≤ maxLen := by
    intro x hx
    have : x.key ∈ ps.map (fun p => Value.string p.1) := by rw [← hkeys]; exact List.mem_map.2 ⟨x, hx, rfl⟩
    obtain ⟨p, hp, e⟩ := List.mem_map.1 this
    exact ⟨p.1, e.symm, hk p hp⟩
  have hfit : WideElems.Fit (H := Unit) Tryz.prog 9 (fun _ => some (.lit (.bool true), [])) es clock := by
    refine ⟨by omega, ⟨h4, h3, ?_⟩, ?_⟩
    · rw [hkeys]
      have : (ps.map fun p => Value.string p.1) = (ps.map (·.1)).map Value.string := by rw [List.map_map]; rfl
      rw [this, List.Nodup, List.pairwise_map]
      exact h5.imp fun hne e => hne (by injection e)
    · intro x hx
      obtain ⟨s, e, hs⟩ := hrd x hx
      exact ⟨(.string s.data.toList, .lit (.bool true)), by simp [WideElems.rd, e, WideMaps.keyOf_string_mk Tryz.underlying9 hs]⟩
  refine ⟨_, ⟨es, clock, h1, hfit, by omega, rfl⟩, ?_, ?_⟩
  · have hp : ((es.toList.map (WideElems.rg (H := Unit) Tryz.prog 9 fun _ => some (.lit (.bool true), []))).foldr DataW.insert []).Perm (es.toList.map (WideElems.rg Tryz.prog 9 fun _ => some (.lit (.bool true), []))) := WideShapes.sorted_perm _
    refine (hp.map (fun p => strOf p.1)).trans ?_
    rw [List.map_map]
    have e : es.toList.map ((fun p => strOf p.1) ∘ WideElems.rg (H := Unit) Tryz.prog 9 fun _ => some (.lit (.bool true), [])) = ps.map (·.1.data.toList) := by
      have h6 : ps.map (·.1.data.toList) = (es.toList.map (·.key)).map (fun v => match v with | .string s => s.data.toList | _ => []) := by rw [hkeys, List.map_map]; rfl
      rw [h6, List.map_map]
      refine List.map_congr_left fun x hx => ?_
      obtain ⟨s, e, hs⟩ := hrd x hx
      simp [Function.comp, WideElems.rg, WideElems.rd, e, WideMaps.keyOf_string_mk Tryz.underlying9 hs, strOf]
    rw [e]
  · show ((es.toList.map _).foldr DataW.insert []).length = ps.length
    rw [length_sorted, List.length_map, Array.length_toList, hlen]
/-- names, rising -/
def sortN (l : List ByteArray) : List ByteArray := ((l.map (·.data.toList)).mergeSort leB).map (fun b => ⟨b.toArray⟩)
def namesS (pl : List PF) : List ByteArray := sortN (pl.map (·.name))
theorem sortN_perm {l l' : List ByteArray} (p : l.Perm l') : sortN l = sortN l' := by rw [sortN, sortN, mergeSort_of_perm (p.map _)]
theorem namesS_perm {pl pl' : List PF} (p : pl.Perm pl') : namesS pl = namesS pl' := sortN_perm (p.map _)
theorem data_back (s : ByteArray) : (⟨s.data.toList.toArray⟩ : ByteArray) = s := by cases s; simp
theorem sortN_mem {l : List ByteArray} : (sortN l).Perm l := by
  unfold sortN
  refine ((List.mergeSort_perm _ _).map _).trans ?_
  rw [List.map_map]
  have : ((fun b => (⟨b.toArray⟩ : ByteArray)) ∘ fun (s : ByteArray) => s.data.toList) = id := funext fun s => data_back s
  rw [this, List.map_id]
theorem flat_str (l : List (List UInt8)) : flat (l.map fun b => (⟨b.toArray⟩ : ByteArray)) = l.map encStr := by
  induction l with
  | nil => rfl
  | cons x l ih => rw [List.map_cons, flat_cons, ih]; rfl
theorem owns_of_row {w : World} {B n : Nat} {v : Value} {xs : List ByteArray} (h : w.ownsRow B 9 1 v n (flat xs)) (hn : n = xs.length) : ∃ a c, v = .slice a xs.length c ∧ OwnSl w 9 a c xs ∧ ∀ q, own a q → B ≤ q := by
  subst hn
  obtain ⟨h1, h2⟩ := h
  rcases h2 with ⟨rfl, h0⟩ | ⟨g, cap, cur, rfl, h3, h4⟩
  · have : xs = [] := List.eq_nil_of_length_eq_zero h0
    subst this
    exact ⟨none, 0, rfl, OwnSl.nil _ _, fun q h => absurd h (own_none q)⟩
  · exact ⟨some ⟨g, 0, none⟩, cap, rfl, ⟨length_flat _, .inr ⟨g, cap, cur, rfl, Nat.zero_le _, h4⟩⟩, fun q h => by rw [own_some] at h; subst h; exact h3⟩
theorem below_ext {w w' : World} (h : RowKit.Below w.heap.size w w') : Ext w w' := ⟨h.os, h.tape, h.output, h.size, fun k hk _ => h.block k hk⟩
theorem keysM (m : Nat) (w : World) : Calls Tryz.prog 217 #[.map (some m)] w (Ret fun v w' => v = .func (.func 257) #[] #[.pointer (some ⟨w.heap.size, 0, none⟩)] ∧ w' = w.alloc (.cells #[.map (some m)] 150)) :=
  (callsIn_wide.1 (keysC (some m) w)).mono fun e w' h => ⟨_, h.1, rfl, h.2⟩
theorem sortedM {ps : List (ByteArray × Value)} (m : Nat) (w : World) (h : MapAt w m ps) (hk : ∀ p ∈ ps, p.1.size ≤ 4294967295) (hl : ps.length ≤ 4294967295) :
    Calls Tryz.prog 44 #[.func (.func 257) #[] #[.pointer (some ⟨w.heap.size, 0, none⟩)]] (w.alloc (.cells #[.map (some m)] 150)) (Ret fun v w' => ∃ a c, v = .slice a (sortN (ps.map (·.1))).length c ∧ OwnSl w' 9 a c (sortN (ps.map (·.1))) ∧
      (∀ q, own a q → (w.alloc (.cells #[.map (some m)] 150)).heap.size ≤ q) ∧ Ext (w.alloc (.cells #[.map (some m)] 150)) w') := by
  obtain ⟨D, h1, h2, h3⟩ := ownsMap_of h (fun p hp => by have := hk p hp; simp only [maxLen]; omega) (by simp only [maxLen]; omega)
  refine (callsIn_wide.1 (sortedC m _ D _ w h1 (by rw [h3]; simp only [maxLen]; omega) (by rw [h3]; omega))).mono fun e w' he => ?_
  obtain ⟨v, ss, rfl, hS, hrow, -, hb⟩ := he
  have e1 : (ss.mergeSort leB).map encStr = flat (sortN (ps.map (·.1))) := by
    rw [mergeSort_of_perm (hS.trans h2), sortN, flat_str, List.map_map]; rfl
  have e2 : ss.length = (sortN (ps.map (·.1))).length := by rw [hS.length_eq, h2.length_eq, sortN_mem.length_eq]; simp
  obtain ⟨a, c, rfl, h4, h5⟩ := owns_of_row (xs := sortN (ps.map (·.1))) (by rw [← e1]; exact hrow) e2
  exact ⟨_, rfl, a, c, rfl, h4, h5, below_ext hb⟩

theorem en44 : Enters Tryz.prog 44 := enters_of Tryz.func44 rfl (by kernel_rfl)
theorem en217 : Enters Tryz.prog 217 := enters_of Tryz.func217 rfl (by kernel_rfl)

set_option maxRecDepth 100000 in
set_option maxHeartbeats 4000000 in
theorem files_ (d m : Nat) (room : Int) (fs : List FileS) (w : World) (hD : DiskO w d m room fs) :
    Calls Tryz.prog 162 #[.pointer (some ⟨d, 0, none⟩)] w (Ret (fun v w' => ∃ a c, v = .slice a (sortN ((ents fs).map (·.1))).length c ∧ OwnSl w' 9 a c (sortN ((ents fs).map (·.1))) ∧ (∀ q, own a q → w.heap.size ≤ q) ∧ Ext w w')) := by
  obtain ⟨hB, hM, hF, hmd, hfd, hfm, hok⟩ := hD
  have hnd := DiskO.names hok
  have hlens := PLOk.lens hok
  have hroom := hok.room
  have hused := hok.used
  have hcnt := hok.len
  rw [List.length_map] at hcnt
  have hel : (ents fs).length = fs.length := List.length_map ..
  have hks : ∀ p ∈ ents fs, p.1.size ≤ 4294967295 := by
    intro p hp
    obtain ⟨f, hf, rfl⟩ := List.mem_map.1 hp
    have := hok.may f.p (List.mem_map.2 ⟨f, hf, rfl⟩)
    simp only [mayN, Bool.and_eq_true, decide_eq_true_eq] at this
    have h2 : f.p.name = f.name := rfl
    rw [h2] at this
    show f.name.size ≤ 4294967295
    omega
  refine calls_run (n := 12) Tryz.func162 rfl rfl rfl ?_
  refine Run.seq ?_
  refine Run.region ?_
  refine RL.val (x_assignSl rfl) ?_
  refine RL.nil ?_
  refine Run.seq ?_
  refine Run.seq ?_
  refine Run.region ?_
  refine RL.val (x_moveP rfl) ?_
  refine RL.st rfl <| St1.call (vals := [.pointer (some ⟨d, 0, none⟩)]) en166 rfl (made_ d m room fs _ (⟨hB, hM, hF, hmd, hfd, hfm, hok⟩ : DiskO _ d m room fs)) ?_
  rintro _ _ ⟨rfl, rfl⟩
  refine RL.val (x_not (b := true) rfl) ?_
  refine RL.nil ?_
  refine Run.condF rfl ?_
  refine Run.skip ?_
  refine Run.seq ?_
  refine Run.region ?_
  refine RL.val (x_moveP rfl) ?_
  refine RL.val (x_nilCheck rfl) ?_
  refine RL.val (x_fld (o' := 0) Tryz.underlying152 rfl ty150 rfl rfl rfl) ?_
  refine RL.val (x_ld (v := .map (some m)) ty150 rfl rfl (hB.cl.field (i := 0) rfl)) ?_
  refine RL.st rfl <| St1.call (vals := [.map (some m)]) en217 rfl (keysM m _) ?_
  rintro _ _ ⟨rfl, rfl⟩
  have hM0 := hM
  have K_1 : Ext w (w.alloc (.cells #[.map (some m)] 150)) := Ext.push _ _
  replace hB := hB.ext K_1
  replace hM := hM.ext K_1
  replace hF := hF.ext K_1
  have K0 := (K_1 : Ext w _)
  refine RL.st rfl <| St1.call (vals := [.func (.func 257) #[] #[.pointer (some ⟨w.heap.size, 0, none⟩)]]) en44 rfl (sortedM m w hM0 hks (by omega)) ?_
  rintro _ w_4 ⟨a_2, c_3, rfl, ho_5, hg_6, K_7⟩
  have pr_8 : ¬ own a_2 d := notNew hg_6 hB.lt
  have pr_9 : ∀ q_, own a_2 q_ → ¬ one m q_ := apartNew hg_6 hM.own_lt
  have pr_10 : ∀ q_, own a_2 q_ → ¬ filesS fs q_ := apartNew hg_6 hF.own_lt
  have pg_11 : ∀ q_, own a_2 q_ → w.heap.size ≤ q_ := fun q_ h => Nat.le_trans K0.size (hg_6 q_ h)
  clear hg_6
  replace hB := hB.ext K_7
  replace hM := hM.ext K_7
  replace hF := hF.ext K_7
  replace K0 := K0.ext K_7
  refine RL.val (x_assignSl rfl) ?_
  refine RL.nil ?_
  refine Run.ret1 (v := .slice (a_2) ((sortN ((ents fs).map (·.1))).length) (c_3)) Tryz.func162 rfl rfl ?_
  exact ⟨_, rfl, a_2, c_3, rfl, ho_5, pg_11, K0⟩

theorem filesD {w : World} {d : Nat} {F : Nat → Prop} {room : Int} {pl : List PF} (h : DiskAt w d F room pl) : Calls Tryz.prog 162 #[.pointer (some ⟨d, 0, none⟩)] w (Ret fun v w' => ∃ a c, v = .slice a (namesS pl).length c ∧ OwnSl w' 9 a c (namesS pl) ∧ (∀ q, own a q → w.heap.size ≤ q) ∧ Ext w w') := by
  obtain ⟨m, fs, rfl, hp, hO⟩ := h
  have e : sortN ((ents fs).map (·.1)) = namesS pl := by rw [ents_keys, ← pl_keys]; exact namesS_perm hp
  have := files_ d m room fs w hO
  rwa [e] at this

end Go.Proofs.YtnphndfbgdkgbaaGreatDoor
