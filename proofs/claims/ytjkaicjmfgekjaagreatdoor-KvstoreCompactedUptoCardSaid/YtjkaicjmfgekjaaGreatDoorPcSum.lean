/-
  Sum
-/
import Derived.Test.YtjkaicjmfgekjaaGreatDoorPcFrame
set_option linter.all false
namespace Go.Proofs.YtjkaicjmfgekjaaGreatDoor
def PO {H:Type}:∀(l:List (DataW H)),Rows.uptoBulkAll l=(l.map Rows.uptoBulk).sum
 |[]=>rfl
 |d::r=>by rw[Rows.uptoBulkAll,PO r,Aaf,Abe]
def PP {α:Type}[Enc α](Q:World->α->Nat->Prop)(W:World)(s:SH)(m:Nat):Prop:=
 ∃xs:List α,jh Q W s xs m/\s.len<=s.cap/\∃ks:List Nat,ks.length=xs.length/\ks.sum+1<=m/\∀(i:Nat) (x:α) (k:Nat),xs[i]? =some x->ks[i]? =some k->Q W x k
def N7 {P : Program} {t e : TypeId} {α : Type} [Enc α] {Q : World -> α -> Nat -> Prop} (ht : P.underlying t = some (.slice e)) (hc : P.cellsOf e = Enc.size α) (hr : FC P e α Q) :
    FC P t SH (PP Q) := by
  intro H enc W fuel cs x h;rcases DataW.trod_slice ht h with ⟨rfl, rfl⟩ | ⟨a, len, cap, elems, rest, n, _, rfl, rfl, hb, hl, hm, hlen, hel, -, -⟩
  · exact ⟨⟨none, 0, 0⟩, rfl, [], ⟨rfl, Ax.nil _ _, Gj _, (λx hx => by cases hx), λ_ _ => Or.inr rfl⟩, Aac _, [], rfl, Gj _, λi x k h => by simp at h⟩
  have key : ∀ i, i < len -> ∃ y : α, ∃ z, elems[i]? = some z /\ Q W y (Rows.uptoBulk z.1) /\ ∀ j v, (cellsOf y)[j]? = some v -> W.cell? (a.add (i * Enc.size α + j)) = some v := by
    intro i hi;have h1 := hel i hi;rw [List.getElem?_eq_getElem Zo] at h1 ⊢;cases hcs : W.cells? 0 (a.add (i * P.cellsOf e)) (P.cellsOf e) with
    | none => rw [hcs] at h1; cases h1
    | some cs =>
      rw [hcs] at h1;obtain ⟨y, rfl, hq⟩ := hr H enc W n cs _ h1;refine ⟨y, _, rfl, hq, λj v hv => ?_⟩;have h3 := World.cells?_some hcs;have hj : j < P.cellsOf e := by rw [hc, <- AI y]; exact (List.getElem?_eq_some_iff.1 hv).1
      have h4 := h3.2.2 j hj;rw [hv, hc] at h4;rw [<- h4];rw [Pp]
  have hxs : ∃ xs : List α, xs.length = len /\ ∀ i, i < len -> ∃ y z, xs[i]? = some y /\ elems[i]? = some z /\ Q W y (Rows.uptoBulk z.1) /\ ∀ j v, (cellsOf y)[j]? = some v -> W.cell? (a.add (i * Enc.size α + j)) = some v := by
    clear hel hlen h hl;induction len with
    | zero => exact ⟨[], rfl, λi hi => absurd hi (Abh _)⟩
    | succ len ih =>
      obtain ⟨xs, hlx, hx⟩ := ih (λi hi => key i Zo);obtain ⟨y, z, hz, hq, hcell⟩ := key len Zo;refine ⟨xs ++ [y], by simp [hlx], λi hi => ?_⟩;by_cases e : i = len
      · subst e; exact ⟨y, z, by rw [Ab4 Zo]; simp [hlx], hz, hq, hcell⟩
      obtain ⟨y', z', h1, h2⟩ := hx i Zo;exact ⟨y', z', by rw [Ack Zo]; exact h1, h2⟩
  obtain ⟨xs, hlx, hx⟩ := hxs;have hpos := Enc.pos (α := α);have hsl : Ax W (some a) xs /\ (a.block < W.heap.size \/ xs = []) := by
    by_cases h0 : len = 0
    · have : xs = [] := AaM Zo;exact ⟨.inl this, .inr this⟩
    -- the block is there
    obtain ⟨y, z, _, _, _, hcell⟩ := hx 0 Zo;have hy : 0 < (cellsOf y).length := by rw [AI]; exact hpos
    have hc0 := hcell 0 _ (List.getElem?_eq_getElem hy);simp only [Nat.zero_mul, Aaq, Addr.add, if_true] at hc0;have hblk := World.block_lt_of_cell? W a hc0;unfold World.cell? at hc0;cases hh : W.heap[a.block]? with
    | none => rw [hh] at hc0; cases hc0
    | some ob =>
      rw [hh] at hc0;cases ob with
      | cells c T fr =>
        simp only at hc0;have hsp : a.spot = none := by
          cases hs : a.spot with
          | none => rfl
          | some q => rw [hs] at hc0; simp at hc0
        obtain ⟨bk, off, sp⟩ := a;simp only at hsp hh hblk;subst hsp;refine ⟨.inr ⟨bk, off, rfl, c, T, fr, hh, λj v hv => ?_⟩, .inl hblk⟩
        -- which element
        have hj : j < xs.length * Enc.size α := by rw [<- AH]; exact (List.getElem?_eq_some_iff.1 hv).1
        have hi : j / Enc.size α < len := by rw [<- hlx]; exact Nat.div_lt_of_lt_mul (by rw [Abc]; exact hj)
        obtain ⟨y, _, hy1, _, _, hcell⟩ := hx (j / Enc.size α) hi;obtain ⟨hlt, rfl⟩ := List.getElem?_eq_some_iff.1 hy1;have hm := Abb j hpos;have hl2 := AI xs[j / Enc.size α];have hg := GT xs (j / Enc.size α) hlt (j % Enc.size α) _ (List.getElem?_eq_getElem (by rw [hl2]; exact hm));have ej : j / Enc.size α * Enc.size α + j % Enc.size α = j := by rw [Abc]; exact Nat.div_add_mod j _
        rw [ej, hv] at hg;have hc := hcell (j % Enc.size α) v (by rw [List.getElem?_eq_getElem (by rw [hl2]; exact hm)]; exact hg.symm);rw [ej, Addr.add_lit] at hc;simpa [World.cell?, hh] using hc
      | _ => cases hc0
  refine ⟨⟨some a, len, cap⟩, rfl, xs, ⟨hlx.symm, hsl.1, ?_, ?_, ?_⟩, hl, elems.map (λz => Rows.uptoBulk z.1), by rw [Aad]; omega, ?_, ?_⟩
  · have h1 := Po (elems.map (·.1));simp only [Rows.uptoBulk, Aad] at h1 ⊢;omega
  · intro x hxm;obtain ⟨i, hi, rfl⟩ := AaI hxm;obtain ⟨y, z, h1, h2, h3, _⟩ := hx i Zo;have hxy : xs[i] = y := by rw [List.getElem?_eq_getElem hi] at h1; exact Option.some.inj h1
    refine ⟨Rows.uptoBulk z.1, ?_, hxy ▸ h3⟩;have h4 := Pn (List.mem_map_of_mem (f := (·.1)) (Aan h2));simp only [Rows.uptoBulk];omega
  · intro x hx';simp only [Option.some.injEq] at hx';subst hx';exact hsl.2
  · have h1 := PO (elems.map (·.1));rw [Aat] at h1;have e : (Rows.uptoBulk ∘ λz : DataW H × List MemPlace => z.1) = λz => Rows.uptoBulk z.1 := rfl
    rw [e] at h1;simp only [Rows.uptoBulk];omega
  intro i x k h1 h2;have hi : i < len := by rw [<- hlx]; exact (List.getElem?_eq_some_iff.1 h1).1
  obtain ⟨y, z, h3, h4, h5, _⟩ := hx i hi;rw [h1] at h3;cases h3
  rw [Aaz, h4] at h2;cases h2
  exact h5
end Go.Proofs.YtjkaicjmfgekjaaGreatDoor
