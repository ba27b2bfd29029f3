/-
  Arrays inside blocks, arrays as values, results that lie in cells.
-/
import Derived.Test.YtnphndfbgdkgbaaGreatDoorLoop
namespace Go.Proofs.YtnphndfbgdkgbaaGreatDoor
section
variable {α : Type} [Enc α] {w : World} {b : Nat} {T : TypeId} {A B : List Value} {xs : List α}
theorem seg_len : (A ++ flat xs ++ B).length = A.length + xs.length * Enc.size α + B.length := by rw [List.length_append, List.length_append, length_flat]
theorem seg_cl {i : Nat} {x : α} (h : Blk w b (A ++ flat xs ++ B) T) (hx : xs[i]? = some x) : Cl w b (A.length + i * Enc.size α) (cellsOf x) := by
  obtain ⟨hi, rfl⟩ := List.getElem?_eq_some_iff.1 hx
  have hc := h.cl
  have := hc.sub (i := A.length + i * Enc.size α) (ds := cellsOf xs[i]) fun j v hv => by
    have hg := flat_get xs i hi j v hv
    have hl : i * Enc.size α + j < (flat xs).length := (List.getElem?_eq_some_iff.1 hg).1
    rw [List.append_assoc, Nat.add_assoc, List.getElem?_append_right (by omega), show A.length + (i * Enc.size α + j) - A.length = i * Enc.size α + j by omega, List.getElem?_append_left hl]
    exact hg
  rwa [Nat.zero_add] at this
theorem seg_arr (h : Blk w b (A ++ flat xs ++ B) T) : Cl w b A.length (flat xs) := by
  have := h.cl.sub (i := A.length) (ds := flat xs) fun j v hv => by
    have hl : j < (flat xs).length := (List.getElem?_eq_some_iff.1 hv).1
    rw [List.append_assoc, List.getElem?_append_right (by omega), show A.length + j - A.length = j by omega, List.getElem?_append_left hl]
    exact hv
  rwa [Nat.zero_add] at this
theorem seg_head {j : Nat} {v : Value} (h : A[j]? = some v) : (A ++ flat xs ++ B)[j]? = some v := by
  have hl : j < A.length := (List.getElem?_eq_some_iff.1 h).1
  rw [List.append_assoc, List.getElem?_append_left hl, h]
theorem seg_tail {n j k : Nat} {v : Value} (hn : xs.length = n) (h : B[j]? = some v) (hk : k = A.length + n * Enc.size α + j) : (A ++ flat xs ++ B)[k]? = some v := by
  subst hk
  have hl : (A ++ flat xs).length = A.length + n * Enc.size α := by rw [List.length_append, length_flat, hn]
  rw [List.getElem?_append_right (by omega), hl, show A.length + n * Enc.size α + j - (A.length + n * Enc.size α) = j by omega, h]
theorem seg_st_head {j m : Nat} {cs : List Value} (h : j + m ≤ A.length) : (A ++ flat xs ++ B).take j ++ cs ++ (A ++ flat xs ++ B).drop (j + m) = (A.take j ++ cs ++ A.drop (j + m)) ++ flat xs ++ B := by
  rw [List.append_assoc A, List.take_append_of_le_length (by omega), List.drop_append_of_le_length h]
  simp
theorem seg_st_tail {n j k m : Nat} {cs : List Value} (hn : xs.length = n) (hk : k = A.length + n * Enc.size α + j) : (A ++ flat xs ++ B).take k ++ cs ++ (A ++ flat xs ++ B).drop (k + m) = A ++ flat xs ++ (B.take j ++ cs ++ B.drop (j + m)) := by
  subst hk
  have hl : (A ++ flat xs).length = A.length + n * Enc.size α := by rw [List.length_append, length_flat, hn]
  rw [← hl, List.take_length_add_append, Nat.add_assoc, List.drop_length_add_append]
  simp
theorem seg_st_el {i off m : Nat} {x x' : α} {cs : List Value} (hx : xs[i]? = some x) (hm : cs.length = m) (hfit : off + m ≤ Enc.size α) (hc : cellsOf x' = (cellsOf x).take off ++ cs ++ (cellsOf x).drop (off + m)) :
    (A ++ flat xs ++ B).take (A.length + i * Enc.size α + off) ++ cs ++ (A ++ flat xs ++ B).drop (A.length + i * Enc.size α + off + m) = A ++ flat (xs.set i x') ++ B := by
  obtain ⟨hi, rfl⟩ := List.getElem?_eq_some_iff.1 hx
  have hlf := length_flat xs
  have hmul : (i + 1) * Enc.size α ≤ xs.length * Enc.size α := Nat.mul_le_mul_right _ hi
  rw [Nat.succ_mul] at hmul
  have hxc := flat_at xs i xs[i] (by simp)
  rw [flat_set xs i x' hi, hc]
  generalize hS : Enc.size α = S at *
  generalize hM : i * S = M at *
  generalize hF : flat xs = F at *
  rw [← hxc]
  have e1 : (A ++ F ++ B).take (A.length + M + off) = A ++ F.take (M + off) := by
    rw [List.append_assoc, Nat.add_assoc, List.take_length_add_append, List.take_append_of_le_length (by omega)]
  have e2 : (A ++ F ++ B).drop (A.length + M + off + m) = F.drop (M + off + m) ++ B := by
    rw [List.append_assoc, show A.length + M + off + m = A.length + (M + off + m) by omega, List.drop_length_add_append, List.drop_append_of_le_length (by omega)]
  have e3 : F.take (M + off) = F.take M ++ (List.take S (F.drop M)).take off := by
    rw [List.take_take, Nat.min_eq_left (by omega), List.take_add]
  have e4 : (List.take S (F.drop M)).drop (off + m) ++ F.drop (M + S) = F.drop (M + off + m) := by
    rw [List.drop_take, List.drop_drop, show M + off + m = M + (off + m) by omega]
    have : F.drop (M + S) = (F.drop (M + (off + m))).drop (S - (off + m)) := by rw [List.drop_drop, show M + (off + m) + (S - (off + m)) = M + S by omega]
    rw [this, List.take_append_drop]
  rw [e1, e2, e3, ← e4]
  simp
theorem arr_size {n m : Nat} (hn : xs.length = n) (h : n * Enc.size α = m) : (flat xs).toArray.size = m := by rw [List.size_toArray, length_flat, hn, h]
theorem blk_st_head {j m : Nat} {cs : List Value} (hb : Blk w b ((A ++ flat xs ++ B).take j ++ cs ++ (A ++ flat xs ++ B).drop (j + m)) T) (h : j + m ≤ A.length) : Blk w b ((A.take j ++ cs ++ A.drop (j + m)) ++ flat xs ++ B) T := by rwa [seg_st_head h] at hb
theorem blk_st_tail {n j k m : Nat} {cs : List Value} (hb : Blk w b ((A ++ flat xs ++ B).take k ++ cs ++ (A ++ flat xs ++ B).drop (k + m)) T) (hn : xs.length = n) (hk : k = A.length + n * Enc.size α + j) : Blk w b (A ++ flat xs ++ (B.take j ++ cs ++ B.drop (j + m))) T := by rwa [seg_st_tail hn hk] at hb
theorem blk_st_el {i k off m : Nat} {x x' : α} {cs : List Value} (hb : Blk w b ((A ++ flat xs ++ B).take k ++ cs ++ (A ++ flat xs ++ B).drop (k + m)) T) (hk : k = A.length + i * Enc.size α + off) (hx : xs[i]? = some x) (hm : cs.length = m) (hfit : off + m ≤ Enc.size α)
    (hc : cellsOf x' = (cellsOf x).take off ++ cs ++ (cellsOf x).drop (off + m)) : Blk w b (A ++ flat (xs.set i x') ++ B) T := by subst hk; rwa [seg_st_el hx hm hfit hc] at hb
end
section
variable {P : Program} {n : FN} {ρ : Regs} {w : World} {dst : Option Nat} {ty : TypeId} {pos : String} {af : Array Edge} {g : Option (Nat × Bool)}
theorem x_idxAN {t e : TypeId} {x ix : Operand} {b o l size bytes : Nat} {z : Value} {agg : Bool} {kd : IntKind} {i : Nat} (ht : P.underlying t = some (.array l e)) (he : Ty P e size bytes z agg)
    (hx : rd n ρ x = .pointer (some ⟨b, o, none⟩)) (hi : rd n ρ ix = .int kd (i : Int)) (h1 : i < l) :
    X P n ρ ⟨dst, .indexAddr t x ix, ty, pos, af, g⟩ w (.pointer (some ⟨b, o + i * size, none⟩)) w := by
  have := x_idxA (P := P) (w := w) (dst := dst) (ty := ty) (pos := pos) (af := af) (g := g) ht he hx hi (by omega) (by omega)
  rwa [Int.toNat_natCast] at this
/-- an element of an array that is a value -/
theorem x_idxV {α : Type} [Enc α] {t e : TypeId} {x ix : Operand} {l bytes : Nat} {z : Value} {kd : IntKind} {i : Nat} {xs : List α} {y : α} {v : Value} (ht : P.underlying t = some (.array l e)) (he : Ty P e (Enc.size α) bytes z true)
    (hx : rd n ρ x = .agg (flat xs).toArray) (hi : rd n ρ ix = .int kd (i : Int)) (h1 : i < l) (hy : xs[i]? = some y) (hv : Enc.val y = v) (ha : Enc.agg α = true) :
    X P n ρ ⟨dst, .index t x ix, ty, pos, af, g⟩ w v w := by
  have hp : (part e (flat xs).toArray (i * Enc.size α)).run P w = .ok v w := by
    have hf := flat_at xs i y hy
    obtain ⟨cs, hcs, hsz⟩ := (Enc.shape y).1 ha
    have h2 : Value.agg ((flat xs).toArray.extract (i * Enc.size α) (i * Enc.size α + Enc.size α)) = v := by
      rw [← hv, hcs]
      congr 1
      apply Array.toList_inj.1
      have e1 : ((flat xs).toArray.extract (i * Enc.size α) (i * Enc.size α + Enc.size α)).toList = ((flat xs).drop (i * Enc.size α)).take (Enc.size α) := by
        simp
      rw [e1, hf, cellsOf, hcs]
      rfl
    exact run_parts he h2 w
  have h3 : (0 : Int) ≤ (i : Int) := by omega
  have h4 : ((i : Int) < (l : Int)) := by omega
  simp [X, execOp, hx, hi, Instr.index, asIntOf, run_underlying ht, h1, he.run_size, hp]
end
section
variable {P : Program} {f : FuncId} {n : FN} {m : Nat} {R : Ending → World → Prop} {k : List Item} {ρ : Regs} {w : World}
theorem resultsC {fn : Func} {t T : Nat} {cs : Array Value} {b o size bytes : Nat} {z : Value} (h : fn.results = #[.cell t T]) (he : Ty P T size bytes z true) (hp : rd n ρ (.tmp t) = .pointer (some ⟨b, o, none⟩)) (hs : cs.size = size) (hc : Cl w b o cs.toList) :
    (results fn (act n ρ).tmps).run P w = .ok (.agg cs) w := by
  have hl := run_loadVar (w := w) (b := b) (o := o) (v := .agg cs) he ⟨fun _ => ⟨cs, rfl, hs⟩, fun e => (by cases e)⟩ hc
  have ht := tmps_getD (n := n) (ρ := ρ) t
  rw [hp] at ht
  have ht' : (act n ρ).tmps[t]?.getD undef = .pointer (some ⟨b, o, none⟩) := by rw [← Array.getD_eq_getD_getElem?]; exact ht
  simp [results, h, ht', asAddr, hl]
theorem Run.retC {fn : Func} {t T : Nat} {cs : Array Value} {b o size bytes : Nat} {z : Value} (hf : P.funcs[f]? = some fn) (hr : fn.results = #[.cell t T]) (he : Ty P T size bytes z true) (hp : rd ⟨m, []⟩ ρ (.tmp t) = .pointer (some ⟨b, o, none⟩)) (hs : cs.size = size) (hc : Cl w b o cs.toList)
    (h : R (.returned (.agg cs)) w) : Run P f ⟨m, []⟩ R (.code .ret :: k) ρ w := Run.ret hf (resultsC hr he hp hs hc) h
end
end Go.Proofs.YtnphndfbgdkgbaaGreatDoor
