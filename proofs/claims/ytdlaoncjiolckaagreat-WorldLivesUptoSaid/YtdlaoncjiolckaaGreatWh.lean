/-
  Layer 22: a world as a whole; awake; WorldNone.
-/
import Derived.Test.YtdlaoncjiolckaaGreatRows
import Derived.Test.YtdlaoncjiolckaaGreatWg
import Derived.Test.YtdlaoncjiolckaaGreatFrame
namespace Go.Proofs.YtdlaoncjiolckaaGreat
attribute [local irreducible] St1 RL RA RT RT1 Run

theorem nil_A : SixA nilS := by
  unfold SixA
  simp [nilS, own_none, List.pairwise_cons]
theorem ret_mono {P : Program} {f : FuncId} {args : Array Value} {w : World} {Φ Ψ : Value → World → Prop} (h : Calls P f args w (Ret Φ)) (hh : ∀ v w', Φ v w' → Ψ v w') : Calls P f args w (Ret Ψ) :=
  h.mono fun _ _ ⟨v, e, hv⟩ => ⟨v, e, hh v _ hv⟩
/-- a world: where its blocks lie, and what it has -/
def WldAt (w : World) (b : Nat) (F : Nat → Prop) (nodes id now : Int) (pv : List (Int × MV)) (cs : List LinkC) : Prop := ∃ pm cm ts, F = wS b pm cm ts ∧ pv = ts.map Pk.p ∧ WldO w b pm cm nodes id now ts cs
def WStep (b : Nat) (F : Nat → Prop) (w : World) (r : Value) (nodes id now : Int) (pv : List (Int × MV)) (cs : List LinkC) : Value → World → Prop := fun v w' => ∃ F', v = r ∧ WldAt w' b F' nodes id now pv cs ∧ MovedS w F F' ∧ Keeps F w w'
/-! ### plain -/
def delP (pv : List (Int × MV)) (i : Int) : List (Int × MV) := pv.filter (fun x => decide (x.1 ≠ i))
def getP (pv : List (Int × MV)) (i : Int) : Option MV := (pv.find? (fun x => decide (x.1 = i))).map (·.2)
def takeE (nodes : Int) (cs : List LinkC) (pv : List (Int × MV)) (i : Int) : Int := match getP pv i with | some v => if linkedB nodes cs v.frm v.to then 0 else 220 | none => 221
def takeV (nodes : Int) (cs : List LinkC) (pv : List (Int × MV)) (i : Int) : MV := if takeE nodes cs pv i = 0 then (getP pv i).getD nilV else nilV
def takeL (nodes : Int) (cs : List LinkC) (pv : List (Int × MV)) (i : Int) : List (Int × MV) := if takeE nodes cs pv i = 0 then delP pv i else pv
def loseE (pv : List (Int × MV)) (i : Int) : Int := if (getP pv i).isSome then 0 else 221
def twiceE (pv : List (Int × MV)) (i : Int) : Int := match getP pv i with | some _ => if pv.length < 512 then 0 else 7 | none => 221
def twiceL (id : Int) (pv : List (Int × MV)) (i : Int) : List (Int × MV) := if twiceE pv i = 0 then pv ++ [(id + 1, (getP pv i).getD nilV)] else pv
def twiceN (id : Int) (pv : List (Int × MV)) (i : Int) : Int := if twiceE pv i = 0 then id + 1 else id
section
variable {w w' : World} {S F : Nat → Prop} {b pm cm : Nat} {nodes id now i : Int} {pv : List (Int × MV)} {cs : List LinkC} {ts us l1 l2 : List Pk} {p : Pk} {s : Six}
theorem WldAt.own_lt (h : WldAt w b F nodes id now pv cs) : ∀ q, F q → q < w.heap.size := by obtain ⟨pm, cm, ts, rfl, rfl, h⟩ := h; exact h.own_lt
theorem WldAt.keepO (h : WldAt w b F nodes id now pv cs) (k : Keeps S w w') (hn : ∀ q, F q → ¬ S q) : WldAt w' b F nodes id now pv cs := by obtain ⟨pm, cm, ts, rfl, rfl, h⟩ := h; exact ⟨pm, cm, ts, rfl, rfl, h.keepO k hn⟩
theorem WldAt.ext (h : WldAt w b F nodes id now pv cs) (k : Ext w w') : WldAt w' b F nodes id now pv cs := h.keepO k fun _ _ h => h
theorem WldAt.ok (h : WldAt w b F nodes id now pv cs) : WOk nodes id now pv := by obtain ⟨pm, cm, ts, rfl, rfl, h⟩ := h; exact h.ok
theorem WldO.keepF (h : WldO w b pm cm nodes id now ts cs) (k : Ext w w') : WldAt w' b (wS b pm cm ts) nodes id now (ts.map Pk.p) cs := ⟨pm, cm, ts, rfl, rfl, h.ext k⟩
theorem wS_mono (h : MovedS w (mgsS ts) (mgsS us)) : MovedS w (wS b pm cm ts) (wS b pm cm us) := by
  rintro q (h1 | h1 | h1 | h1)
  · exact .inl (.inl h1)
  · exact .inl (.inr (.inl h1))
  · exact .inl (.inr (.inr (.inl h1)))
  · exact (h q h1).imp (fun h => .inr (.inr (.inr h))) (fun h => h)
theorem wS_sub (h : ∀ q, mgsS us q → mgsS ts q) : MovedS w (wS b pm cm ts) (wS b pm cm us) := wS_mono fun q hq => .inl (h q hq)
theorem getP_in (hr : (ts.map Pk.p).Pairwise (fun x y => x.1 < y.1)) (hp : p ∈ ts) (hi : p.id = i) : getP (ts.map Pk.p) i = some p.v := by
  unfold getP
  cases hf : (ts.map Pk.p).find? (fun x => decide (x.1 = i)) with
  | none => have := List.find?_eq_none.1 hf p.p (List.mem_map.2 ⟨p, hp, rfl⟩); simp [Pk.p, hi] at this
  | some x =>
    obtain ⟨y, hy, rfl⟩ := List.mem_map.1 (List.mem_of_find?_eq_some hf)
    have h0 := List.find?_some hf
    have h1 : y.id = i := of_decide_eq_true h0
    rw [p_inj hr hy hp (h1.trans hi.symm)]; rfl
theorem getP_no (h : ¬ ∃ p ∈ ts, p.id = i) : getP (ts.map Pk.p) i = none := by
  unfold getP
  rw [Option.map_eq_none_iff, List.find?_eq_none]
  intro x hx
  obtain ⟨y, hy, rfl⟩ := List.mem_map.1 hx
  simp only [decide_eq_true_eq]
  exact fun e => h ⟨y, hy, e⟩
theorem del_mid2 (hr : (ts.map Pk.p).Pairwise (fun x y => x.1 < y.1)) (e : ts = l1 ++ p :: l2) (hi : p.id = i) : (l1 ++ l2).map Pk.p = delP (ts.map Pk.p) i := by
  have hne : ∀ x ∈ l1 ++ l2, x.id ≠ i := fun x hx e2 => by
    subst e
    have hx' : x ∈ l1 ++ p :: l2 := mid_sub.subset hx
    have := p_inj hr hx' (show p ∈ l1 ++ p :: l2 by simp) (e2.trans hi.symm)
    subst this
    rw [List.map_append, List.map_cons] at hr
    obtain ⟨-, h2, h3⟩ := List.pairwise_append.1 hr
    rcases List.mem_append.1 hx with h | h
    · have := h3 x.p (List.mem_map.2 ⟨x, h, rfl⟩) x.p (by simp); exact absurd this (Int.lt_irrefl _)
    · have := (List.pairwise_cons.1 h2).1 x.p (List.mem_map.2 ⟨x, h, rfl⟩); exact absurd this (Int.lt_irrefl _)
  subst e
  unfold delP
  have hf : ∀ l : List Pk, (∀ x ∈ l, x.id ≠ i) → (l.map Pk.p).filter (fun x => decide (x.1 ≠ i)) = l.map Pk.p := fun l hl => by
    rw [List.filter_eq_self]
    intro x hx
    obtain ⟨y, hy, rfl⟩ := List.mem_map.1 hx
    exact decide_eq_true (hl y hy)
  rw [List.map_append, List.map_append, List.map_cons, List.filter_append, hf l1 (fun x hx => hne x (List.mem_append.2 (.inl hx))), List.filter_cons, if_neg (by simp [Pk.p, hi]), hf l2 (fun x hx => hne x (List.mem_append.2 (.inr hx)))]
theorem sendD (h : WldAt w b F nodes id now pv cs) (al : Option Addr) (ms : List Mg) (lc : Nat) (hl : SlOf w al (ms.map Mg.c)) (hld : ∀ x, al = some x → ms.map Mg.c ≠ [] → ¬ F x.block) (hms : ∀ m ∈ ms, SixR w m.s m.v ∧ VOk m.v ∧ ∀ q, rdS m.s m.v q → ¬ F q) (hml : ms.length ≤ 1048576) (hid : id ≤ 100000000) :
    Calls Tryz.prog 13 #[.pointer (some ⟨b, 0, none⟩), .slice al (ms.map Mg.c).length lc] w (Ret (WStep b F w (.int .i64 (((snI nodes id pv (ms.map Mg.v) ms.length).n : Nat) : Int)) nodes (snI nodes id pv (ms.map Mg.v) ms.length).id now (snI nodes id pv (ms.map Mg.v) ms.length).pv cs)) := by
  obtain ⟨pm, cm, ts, rfl, rfl, hD⟩ := h
  refine ret_mono (send_ b pm cm nodes id now ts cs al ms lc w hD hl hld hms hml hid) fun v w' h => ?_
  obtain ⟨us, rfl, h1, h2, h3, h4⟩ := h
  exact ⟨_, rfl, ⟨pm, cm, us, rfl, h2.symm, h1⟩, wS_mono h3, h4⟩
/-- Take: the message that is told is memory of its own -/
def TStep (b : Nat) (F : Nat → Prop) (w : World) (E : Int) (V : MV) (nodes id now : Int) (pv : List (Int × MV)) (cs : List LinkC) : Value → World → Prop := fun r w' => ∃ F' s, r = .tuple #[mval V s, .int .i64 E] ∧ WldAt w' b F' nodes id now pv cs ∧ SixO w' s V ∧ SixA s ∧ VOk V ∧ (∀ q, ownS s q → F q) ∧ (∀ q, ownS s q → ¬ F' q) ∧ MovedS w F F' ∧ Keeps F w w'
theorem takeD (h : WldAt w b F nodes id now pv cs) (i : Int) : Calls Tryz.prog 14 #[.pointer (some ⟨b, 0, none⟩), .int .i64 i] w (Ret (TStep b F w (takeE nodes cs pv i) (takeV nodes cs pv i) nodes id now (takeL nodes cs pv i) cs)) := by
  obtain ⟨pm, cm, ts, rfl, rfl, hD⟩ := h
  have hnl : ∀ q, ownS nilS q → wS b pm cm ts q := fun q h => absurd h (nil_own q)
  refine ret_mono (take_ b pm cm nodes id now ts cs i w hD) fun v w' h => ?_
  rcases h with ⟨hno, rfl, hD', K⟩ | ⟨p, hp, hpi, hlk, rfl, hD', K⟩ | ⟨p, l1, l2, hts, hpi, hlk, rfl, h1, h2, h2a, h3, K⟩
  · have e : takeE nodes cs (ts.map Pk.p) i = 221 := by rw [takeE, getP_no hno]
    have e2 : takeV nodes cs (ts.map Pk.p) i = nilV := by rw [takeV, e]; rfl
    have e3 : takeL nodes cs (ts.map Pk.p) i = ts.map Pk.p := by rw [takeL, e]; rfl
    rw [e, e2, e3]
    exact ⟨_, nilS, rfl, ⟨pm, cm, ts, rfl, rfl, hD'⟩, nil_O, nil_A, nil_ok, hnl, fun q h => absurd h (nil_own q), fun q h => .inl h, K.mono fun q _ h => wF_wS q h⟩
  · have e : takeE nodes cs (ts.map Pk.p) i = 220 := by rw [takeE, getP_in hD.ok.rise hp hpi]; simp [hlk]
    have e2 : takeV nodes cs (ts.map Pk.p) i = nilV := by rw [takeV, e]; rfl
    have e3 : takeL nodes cs (ts.map Pk.p) i = ts.map Pk.p := by rw [takeL, e]; rfl
    rw [e, e2, e3]
    exact ⟨_, nilS, rfl, ⟨pm, cm, ts, rfl, rfl, hD'⟩, nil_O, nil_A, nil_ok, hnl, fun q h => absurd h (nil_own q), fun q h => .inl h, K.mono fun q _ h => wF_wS q h⟩
  · have hp : p ∈ ts := by rw [hts]; simp
    have hg := getP_in hD.ok.rise hp hpi
    have e : takeE nodes cs (ts.map Pk.p) i = 0 := by rw [takeE, hg]; simp [hlk]
    have e2 : takeV nodes cs (ts.map Pk.p) i = p.v := by rw [takeV, if_pos e, hg]; rfl
    have e3 : takeL nodes cs (ts.map Pk.p) i = (l1 ++ l2).map Pk.p := by rw [takeL, if_pos e, del_mid2 hD.ok.rise hts hpi]
    rw [e, e2, e3]
    exact ⟨_, p.s, rfl, ⟨pm, cm, _, rfl, rfl, h1⟩, h2, h2a, (hD.ms.all p hp).ok, fun q h => .inr (.inr (.inr ⟨p, hp, h⟩)), h3, wS_sub (mgs_r hts), K.mono fun q _ h => wF_wS q h⟩
theorem loseD (h : WldAt w b F nodes id now pv cs) (i : Int) : Calls Tryz.prog 20 #[.pointer (some ⟨b, 0, none⟩), .int .i64 i] w (Ret (WStep b F w (.int .i64 (loseE pv i)) nodes id now (delP pv i) cs)) := by
  obtain ⟨pm, cm, ts, rfl, rfl, hD⟩ := h
  refine ret_mono (lose_ b pm cm nodes id now ts cs i w hD) fun v w' h => ?_
  rcases h with ⟨hno, rfl, hD', K⟩ | ⟨p, l1, l2, hts, hpi, rfl, h1, K⟩
  · have e : loseE (ts.map Pk.p) i = 221 := by rw [loseE, getP_no hno]; rfl
    have e2 : delP (ts.map Pk.p) i = ts.map Pk.p := by
      unfold delP
      rw [List.filter_eq_self]
      intro x hx
      obtain ⟨y, hy, rfl⟩ := List.mem_map.1 hx
      exact decide_eq_true (fun e => hno ⟨y, hy, e⟩)
    rw [e, e2]
    exact ⟨_, rfl, ⟨pm, cm, ts, rfl, rfl, hD'⟩, fun q h => .inl h, K.mono fun q _ h => wF_wS q h⟩
  · have hp : p ∈ ts := by rw [hts]; simp
    have e : loseE (ts.map Pk.p) i = 0 := by rw [loseE, getP_in hD.ok.rise hp hpi]; rfl
    rw [e, ← del_mid2 hD.ok.rise hts hpi]
    exact ⟨_, rfl, ⟨pm, cm, _, rfl, rfl, h1⟩, wS_sub (mgs_r hts), K.mono fun q _ h => wF_wS q h⟩
theorem twiceD (h : WldAt w b F nodes id now pv cs) (i : Int) (hid : id ≤ 100000000) : Calls Tryz.prog 22 #[.pointer (some ⟨b, 0, none⟩), .int .i64 i] w (Ret (WStep b F w (.int .i64 (twiceE pv i)) nodes (twiceN id pv i) now (twiceL id pv i) cs)) := by
  obtain ⟨pm, cm, ts, rfl, rfl, hD⟩ := h
  refine ret_mono (twice_ b pm cm nodes id now ts cs i w hD hid) fun v w' h => ?_
  rcases h with ⟨hno, rfl, hD', K⟩ | ⟨⟨p, hp, hpi⟩, hl, rfl, hD', K⟩ | ⟨p, s', hp, hpi, hl, rfl, h1, h2, K⟩
  · have e : twiceE (ts.map Pk.p) i = 221 := by rw [twiceE, getP_no hno]
    have e2 : twiceN id (ts.map Pk.p) i = id := by rw [twiceN, e]; rfl
    have e3 : twiceL id (ts.map Pk.p) i = ts.map Pk.p := by rw [twiceL, e]; rfl
    rw [e, e2, e3]
    exact ⟨_, rfl, ⟨pm, cm, ts, rfl, rfl, hD'⟩, fun q h => .inl h, K.mono fun q _ h => wF_wS q h⟩
  · have e : twiceE (ts.map Pk.p) i = 7 := by rw [twiceE, getP_in hD.ok.rise hp hpi]; simp only; rw [if_neg (by rw [List.length_map]; omega)]
    have e2 : twiceN id (ts.map Pk.p) i = id := by rw [twiceN, e]; rfl
    have e3 : twiceL id (ts.map Pk.p) i = ts.map Pk.p := by rw [twiceL, e]; rfl
    rw [e, e2, e3]
    exact ⟨_, rfl, ⟨pm, cm, ts, rfl, rfl, hD'⟩, fun q h => .inl h, K.mono fun q _ h => wF_wS q h⟩
  · have hg := getP_in hD.ok.rise hp hpi
    have e : twiceE (ts.map Pk.p) i = 0 := by rw [twiceE, hg]; simp only; rw [if_pos (by rw [List.length_map]; omega)]
    have e2 : twiceN id (ts.map Pk.p) i = id + 1 := by rw [twiceN, if_pos e]
    have e3 : twiceL id (ts.map Pk.p) i = (ts ++ [(⟨id + 1, p.v, s'⟩ : Pk)]).map Pk.p := by rw [twiceL, if_pos e, hg, List.map_append]; rfl
    rw [e, e2, e3]
    exact ⟨_, rfl, ⟨pm, cm, _, rfl, rfl, h1⟩, wS_mono h2, K.mono fun q _ h => wF_wS q h⟩
theorem cutD (h : WldAt w b F nodes id now pv cs) (x y : Int) : Calls Tryz.prog 24 #[.pointer (some ⟨b, 0, none⟩), .int .i64 x, .int .i64 y] w (Ret (WStep b F w (.int .i64 (cutE nodes cs x y)) nodes id now pv (cutL nodes cs x y))) := by
  obtain ⟨pm, cm, ts, rfl, rfl, hD⟩ := h
  refine ret_mono (cut_ b pm cm nodes id now ts cs x y w hD) fun v w' h => ?_
  obtain ⟨rfl, h1, K⟩ := h
  exact ⟨_, rfl, ⟨pm, cm, ts, rfl, rfl, h1⟩, fun q h => .inl h, K.mono fun q _ h => wF_wS q h⟩
theorem mendD (h : WldAt w b F nodes id now pv cs) (x y : Int) : Calls Tryz.prog 26 #[.pointer (some ⟨b, 0, none⟩), .int .i64 x, .int .i64 y] w (Ret (WStep b F w (.int .i64 (mendE nodes cs x y)) nodes id now pv (mendL nodes cs x y))) := by
  obtain ⟨pm, cm, ts, rfl, rfl, hD⟩ := h
  refine ret_mono (mend_ b pm cm nodes id now ts cs x y w hD) fun v w' h => ?_
  obtain ⟨rfl, h1, K⟩ := h
  exact ⟨_, rfl, ⟨pm, cm, ts, rfl, rfl, h1⟩, fun q h => .inl h, K.mono fun q _ h => wF_wS q h⟩
theorem passD (h : WldAt w b F nodes id now pv cs) (i : Int) : Calls Tryz.prog 15 #[.pointer (some ⟨b, 0, none⟩), .int .i64 i] w (Ret (WStep b F w (.int .i64 (passE now i)) nodes id (passN now i) pv cs)) := by
  obtain ⟨pm, cm, ts, rfl, rfl, hD⟩ := h
  refine ret_mono (pass_ b pm cm nodes id now ts cs i w hD) fun v w' h => ?_
  obtain ⟨rfl, h1, K⟩ := h
  exact ⟨_, rfl, ⟨pm, cm, ts, rfl, rfl, h1⟩, fun q h => .inl h, K.mono fun q _ h => wF_wS q h⟩
theorem nowD (h : WldAt w b F nodes id now pv cs) : Calls Tryz.prog 8 #[.pointer (some ⟨b, 0, none⟩)] w (Ret fun v w' => v = .int .i64 now ∧ Ext w w') := by
  obtain ⟨pm, cm, ts, rfl, rfl, hD⟩ := h
  exact now_ b pm cm nodes id now ts cs w hD
theorem linkedD (h : WldAt w b F nodes id now pv cs) (x y : Int) : Calls Tryz.prog 32 #[.pointer (some ⟨b, 0, none⟩), .int .i64 x, .int .i64 y] w (Ret fun v w' => v = .bool (linkedB nodes cs x y) ∧ Ext w w') := by
  obtain ⟨pm, cm, ts, rfl, rfl, hD⟩ := h
  exact linked_ b pm cm nodes id now ts cs x y w hD
end
theorem newD (nodes : Int) (w : World) : Calls Tryz.prog 4 #[.int .i64 nodes] w (Ret fun v w' => (¬ (1 ≤ nodes ∧ nodes ≤ 8) ∧ v = .tuple #[.pointer none, .int .i64 1] ∧ Ext w w') ∨
    ((1 ≤ nodes ∧ nodes ≤ 8) ∧ ∃ b F, v = .tuple #[.pointer (some ⟨b, 0, none⟩), .int .i64 0] ∧ WldAt w' b F nodes 0 0 [] [] ∧ (∀ q, F q → w.heap.size ≤ q) ∧ Ext w w')) := by
  refine ret_mono (new_ nodes w) fun v w' h => ?_
  rcases h with h | ⟨h1, b, pm, cm, h2, h3, h4, h5⟩
  · exact .inl h
  · exact .inr ⟨h1, b, _, h2, ⟨pm, cm, [], rfl, rfl, h3⟩, h4, h5⟩
/-! ### a program that sends nothing is told -/
def awV : MV := ⟨3, 0, 1, 0, ⟨#[]⟩, 0, 0, 0, 0, 0, 0, [], [], [], [], [], []⟩
def awMs : List Mg := [⟨awV, nilS⟩]
theorem aw_send {w : World} {b : Nat} {F : Nat → Prop} (h : WldAt w b F 2 0 0 [] []) (al : Option Addr) (lc : Nat) (hl : SlOf w al (awMs.map Mg.c)) (hd : ∀ x, al = some x → ¬ F x.block) : Calls Tryz.prog 13 #[.pointer (some ⟨b, 0, none⟩), .slice al 1 lc] w (Ret (WStep b F w (.int .i64 1) 2 1 0 [(1, awV)] [])) :=
  sendD h al awMs lc hl (fun x hx _ => hd x hx) (fun m hm => by
    simp only [awMs, List.mem_singleton] at hm
    subst hm
    exact ⟨⟨SlOf.nil _ _, SlOf.nil _ _, SlOf.nil _ _, SlOf.nil _ _, SlOf.nil _ _, SlOf.nil _ _⟩, ⟨by decide, by decide, by decide, by decide, by decide, by decide⟩, fun q hq => absurd (rd_own q hq) (nil_own q)⟩) (by decide) (by decide)
theorem aw_take {w : World} {b : Nat} {F : Nat → Prop} (h : WldAt w b F 2 1 0 [(1, awV)] []) : Calls Tryz.prog 14 #[.pointer (some ⟨b, 0, none⟩), .int .i64 1] w (Ret (TStep b F w 0 awV 2 1 0 [] [])) := takeD h 1
theorem aw_pass {w : World} {b : Nat} {F : Nat → Prop} (h : WldAt w b F 2 1 0 [] []) : Calls Tryz.prog 15 #[.pointer (some ⟨b, 0, none⟩), .int .i64 5] w (Ret (WStep b F w (.int .i64 0) 2 1 5 [] [])) := passD h 5
theorem sameT {a : MV} {f : FuncId} {args : Array Value} {w : World} (h : Calls Tryz.prog f args w (Ret fun v w' => v = .bool (decide (a = a)) ∧ Ext w w')) : Calls Tryz.prog f args w (Ret fun v w' => v = .bool true ∧ Ext w w') := by rwa [decide_eq_true (rfl : a = a)] at h

structure DoC where
  op : Int
  msgs : SH
  a : Int
  b : Int
instance : Enc DoC := Enc.struct (fun t => [.int .i64 t.op, .slice t.msgs.a t.msgs.len t.msgs.cap, .int .i64 t.a, .int .i64 t.b]) 4 (fun _ => rfl) (fun _ v hv => by simp at hv; rcases hv with rfl | rfl | rfl | rfl <;> rfl) (by decide)

theorem en4 : Enters Tryz.prog 4 := enters_of Tryz.func4 rfl (by kernel_rfl)
theorem en8 : Enters Tryz.prog 8 := enters_of Tryz.func8 rfl (by kernel_rfl)
theorem en13 : Enters Tryz.prog 13 := enters_of Tryz.func13 rfl (by kernel_rfl)
theorem en14 : Enters Tryz.prog 14 := enters_of Tryz.func14 rfl (by kernel_rfl)
theorem en15 : Enters Tryz.prog 15 := enters_of Tryz.func15 rfl (by kernel_rfl)

set_option maxRecDepth 100000 in
set_option maxHeartbeats 4000000 in
theorem awake_ (w : World) :
    Calls Tryz.prog 6 #[] w (Ret (fun v w' => v = .bool true ∧ Ext w w')) := by
  refine calls_run (n := 43) Tryz.func6 rfl rfl rfl ?_
  refine Run.seq ?_
  refine Run.region ?_
  refine RL.val (x_assignB rfl) ?_
  refine RL.nil ?_
  refine Run.seq ?_
  refine Run.region ?_
  refine RL.st rfl <| St1.call (vals := [.int .i64 (2)]) en4 rfl (newD 2 _) ?_
  rintro _ w_3 (⟨hb_7, _, _⟩ | ⟨_, b_1, F_2, rfl, hS_4, hg_5, K_6⟩)
  · exact absurd (by decide) hb_7
  have pg_8 : ∀ q_, F_2 q_ → w.heap.size ≤ q_ := fun q_ h => Nat.le_trans (Nat.le_refl _) (hg_5 q_ h)
  clear hg_5
  have K0 := (K_6 : Ext w _)
  refine RL.val (x_moveT rfl) ?_
  refine RL.val (x_extract rfl rfl) ?_
  refine RL.val (x_extract rfl rfl) ?_
  refine RL.val (x_assignP rfl) ?_
  refine RL.val (x_assignI rfl) ?_
  refine RL.nil ?_
  refine Run.seq ?_
  refine Run.seq ?_
  refine Run.region ?_
  refine RL.val (x_moveI rfl) ?_
  refine RL.val (litF (x_neI rfl rfl) (by decide)) ?_
  refine RL.val (x_moveB rfl) ?_
  refine RL.gst (wantedF1 rfl rfl rfl rfl) <| St1.val (x_moveP rfl) ?_
  refine RL.gst (wantedF1 rfl rfl rfl rfl) <| St1.val (litF (x_ptrNil Tryz.underlying23 rfl rfl) rfl) ?_
  refine RL.val (x_orF rfl rfl rfl) ?_
  refine RL.val (x_moveB rfl) ?_
  refine RL.gst (wantedF1 rfl rfl rfl rfl) <| St1.val (x_moveP rfl) ?_
  refine RL.gst (wantedF1 rfl rfl rfl rfl) <| St1.val (x_build (cells := #[.int .i64 (3), .int .i64 (0), .int .i64 (1), .int .i64 (0), .string (⟨#[]⟩), .slice (none) (0) (0), .slice (none) (0) (0), .slice (none) (0) (0), .int .i64 (0), .int .i64 (0), .int .i64 (0), .int .i64 (0), .int .i64 (0), .int .i64 (0), .slice (none) (0) (0), .slice (none) (0) (0), .slice (none) (0) (0)]) (by kernel_rfl)) ?_
  refine RL.gst (wantedF1 rfl rfl rfl rfl) <| St1.buildSlice ([(⟨3, 0, 1, 0, ⟨#[]⟩, (⟨⟨none, 0, 0⟩, (⟨⟨none, 0, 0⟩, ⟨none, 0, 0⟩⟩ : CtxC)⟩ : CartC), 0, 0, 0, (⟨0, 0, 0, ⟨none, 0, 0⟩⟩ : RingC), ⟨none, 0, 0⟩, ⟨none, 0, 0⟩⟩ : MsgC)] : List MsgC) Tryz.underlying31 ty57 rfl rfl (by first | decide | (simp [Enc.size])) ?_
  intro b_9 w_10 hl_13 ho_12 K_11
  have pr_14 : ∀ q_, own (some ⟨b_9, 0, none⟩) q_ → ¬ F_2 q_ := apartNew (ge_new hl_13) hS_4.own_lt
  have pg_15 : ∀ q_, own (some ⟨b_9, 0, none⟩) q_ → w.heap.size ≤ q_ := fun q_ h => Nat.le_trans K0.size ((ge_new hl_13) q_ h)
  clear hl_13
  replace hS_4 := hS_4.ext K_11
  replace K0 := K0.ext K_11
  refine RL.gst (wantedF1 rfl rfl rfl rfl) <| St1.call (vals := [.pointer (some ⟨b_1, 0, none⟩), .slice (some ⟨b_9, 0, none⟩) (([(⟨3, 0, 1, 0, ⟨#[]⟩, (⟨⟨none, 0, 0⟩, (⟨⟨none, 0, 0⟩, ⟨none, 0, 0⟩⟩ : CtxC)⟩ : CartC), 0, 0, 0, (⟨0, 0, 0, ⟨none, 0, 0⟩⟩ : RingC), ⟨none, 0, 0⟩, ⟨none, 0, 0⟩⟩ : MsgC)] : List MsgC).length) (([(⟨3, 0, 1, 0, ⟨#[]⟩, (⟨⟨none, 0, 0⟩, (⟨⟨none, 0, 0⟩, ⟨none, 0, 0⟩⟩ : CtxC)⟩ : CartC), 0, 0, 0, (⟨0, 0, 0, ⟨none, 0, 0⟩⟩ : RingC), ⟨none, 0, 0⟩, ⟨none, 0, 0⟩⟩ : MsgC)] : List MsgC).length)]) en13 rfl (aw_send hS_4 _ _ ho_12.sl (fun x_ hx_ => pr_14 _ ⟨x_, hx_, rfl⟩)) ?_
  rintro _ w_17 ⟨F_16, rfl, hS_18, hm_19, K_20⟩
  have pr_21 : ∀ q_, F_16 q_ → ¬ own (some ⟨b_9, 0, none⟩) q_ := hm_19.apart (fun q_ h1 h2 => pr_14 q_ h2 h1) ho_12.own_lt
  have pg_22 : ∀ q_, F_16 q_ → w.heap.size ≤ q_ := hm_19.ge pg_8 K0.size
  replace ho_12 := ho_12.keepO K_20 pr_14
  replace K0 := K0.new K_20 pg_8
  clear hm_19
  refine RL.gst (wantedF1 rfl rfl rfl rfl) <| St1.val (litF (x_neI rfl rfl) (by decide)) ?_
  refine RL.val (x_orF rfl rfl rfl) ?_
  refine RL.nil ?_
  refine Run.condF rfl ?_
  refine Run.skip ?_
  refine Run.seq ?_
  refine Run.region ?_
  refine RL.val (x_moveP rfl) ?_
  refine RL.st rfl <| St1.call (vals := [.pointer (some ⟨b_1, 0, none⟩), .int .i64 (1)]) en14 rfl (aw_take hS_18) ?_
  rintro _ w_25 ⟨F_23, s_24, rfl, hS_26, hO_27, hA_28, hv_29, hin_30, hap_31, hm_32, K_33⟩
  have pr_35 : ∀ q_, ownS s_24 q_ → ¬ own (some ⟨b_9, 0, none⟩) q_ := fun q_ h_ => pr_21 q_ (hin_30 q_ h_)
  have pr_36 : ∀ q_, F_23 q_ → ¬ own (some ⟨b_9, 0, none⟩) q_ := hm_32.apart pr_21 ho_12.own_lt
  have pg_37 : ∀ q_, F_23 q_ → w.heap.size ≤ q_ := hm_32.ge pg_22 K0.size
  replace ho_12 := ho_12.keepO K_33 (fun q_ h1 h2 => pr_21 q_ h2 h1)
  replace K0 := K0.new K_33 pg_22
  clear hm_32
  have pg_38 : ∀ q_, ownS s_24 q_ → w.heap.size ≤ q_ := fun q_ h_ => pg_22 q_ (hin_30 q_ h_)
  refine RL.val (x_moveT rfl) ?_
  refine RL.val (x_extract rfl rfl) ?_
  refine RL.val (x_extract rfl rfl) ?_
  refine RL.st rfl <| St1.alloc ty57 ?_
  intro b_39 w_40 hl_43 hb_42 K_41
  replace hb_42 : Blk w_40 b_39 [.int .i64 (0), .int .i64 (0), .int .i64 (0), .int .i64 (0), .string (⟨#[]⟩), .slice (none) (0) (0), .slice (none) (0) (0), .slice (none) (0) (0), .int .i64 (0), .int .i64 (0), .int .i64 (0), .int .i64 (0), .int .i64 (0), .int .i64 (0), .slice (none) (0) (0), .slice (none) (0) (0), .slice (none) (0) (0)] 57 := hb_42
  have pr_44 : ¬ own (some ⟨b_9, 0, none⟩) b_39 := fun h => absurd (ho_12.own_lt _ h) (by omega)
  have pr_45 : ¬ F_23 b_39 := fun h => absurd (hS_26.own_lt _ h) (by omega)
  have pr_46 : ¬ ownS s_24 b_39 := fun h => absurd (hO_27.own_lt _ h) (by omega)
  have : w.heap.size ≤ b_39 := Nat.le_trans K0.size hl_43
  clear hl_43
  replace ho_12 := ho_12.ext K_41
  replace hS_26 := hS_26.ext K_41
  replace hO_27 := hO_27.ext K_41
  replace K0 := K0.ext K_41
  refine RL.st rfl <| St1.store (v := .agg #[.int .i64 (((mkC awV s_24)).kind), .int .i64 (((mkC awV s_24)).frm), .int .i64 (((mkC awV s_24)).to), .int .i64 (((mkC awV s_24)).req), .string (((mkC awV s_24)).key), .slice (s_24.ea) (awV.ent.length) (s_24.ec), .slice (s_24.ma) (awV.mrk.length) (s_24.mc), .slice (s_24.ca) (awV.cl.length) (s_24.cc), .int .i64 (((mkC awV s_24)).owner), .int .i64 (((mkC awV s_24)).part), .int .i64 (((mkC awV s_24)).n), .int .i64 ((((mkC awV s_24)).ring).parts), .int .i64 ((((mkC awV s_24)).ring).copies), .int .i64 ((((mkC awV s_24)).ring).spots), .slice (s_24.ba) (awV.mem.length) (s_24.bc), .slice (s_24.pa) (awV.pe.length) (s_24.pc), .slice (s_24.sa) (awV.su.length) (s_24.sc)]) ty57 rfl rfl rfl (by simp [Value.cells, Value.oneCell']) hb_42 (by simp) ?_
  intro w_47 hb_42_ K_48
  have hb_42' : Blk w_47 b_39 [.int .i64 (((mkC awV s_24)).kind), .int .i64 (((mkC awV s_24)).frm), .int .i64 (((mkC awV s_24)).to), .int .i64 (((mkC awV s_24)).req), .string (((mkC awV s_24)).key), .slice (s_24.ea) (awV.ent.length) (s_24.ec), .slice (s_24.ma) (awV.mrk.length) (s_24.mc), .slice (s_24.ca) (awV.cl.length) (s_24.cc), .int .i64 (((mkC awV s_24)).owner), .int .i64 (((mkC awV s_24)).part), .int .i64 (((mkC awV s_24)).n), .int .i64 ((((mkC awV s_24)).ring).parts), .int .i64 ((((mkC awV s_24)).ring).copies), .int .i64 ((((mkC awV s_24)).ring).spots), .slice (s_24.ba) (awV.mem.length) (s_24.bc), .slice (s_24.pa) (awV.pe.length) (s_24.pc), .slice (s_24.sa) (awV.su.length) (s_24.sc)] 57 := hb_42_
  clear hb_42_
  replace ho_12 := ho_12.keepO K_48 (fun q_ hq_ eq_ => pr_44 (by simp only [one] at eq_; rw [← eq_]; exact hq_))
  replace hS_26 := hS_26.keepO K_48 (fun q_ hq_ eq_ => pr_45 (by simp only [one] at eq_; rw [← eq_]; exact hq_))
  replace hO_27 := hO_27.keepO K_48 (fun q_ hq_ eq_ => pr_46 (by simp only [one] at eq_; rw [← eq_]; exact hq_))
  replace K0 := K0.new K_48 (fun x hx => by simp only [one] at hx; omega)
  replace hb_42 := hb_42'
  clear hb_42'
  refine RL.val (x_assignI rfl) ?_
  refine RL.nil ?_
  refine Run.seq ?_
  refine Run.region ?_
  refine RL.val (x_moveI rfl) ?_
  refine RL.val (litT (x_eqI rfl rfl) (by decide)) ?_
  refine RL.val (x_moveB rfl) ?_
  refine RL.gst (wantedT1 rfl rfl rfl rfl) <| St1.val (x_fld (o' := 0) Tryz.underlying57 rfl ty3 rfl rfl rfl) ?_
  refine RL.gst (wantedT1 rfl rfl rfl rfl) <| St1.val (x_ld (v := .int .i64 (((mkC awV s_24)).kind)) ty3 rfl rfl (hb_42.cl.field (i := 0) rfl)) ?_
  refine RL.gst (wantedT1 rfl rfl rfl rfl) <| St1.val (litT (x_eqI rfl rfl) rfl) ?_
  refine RL.val (x_andT rfl rfl rfl) ?_
  refine RL.val (x_moveB rfl) ?_
  refine RL.gst (wantedT1 rfl rfl rfl rfl) <| St1.val (x_moveP rfl) ?_
  refine RL.gst (wantedT1 rfl rfl rfl rfl) <| St1.call (vals := [.pointer (some ⟨b_1, 0, none⟩), .int .i64 (5)]) en15 rfl (aw_pass hS_26) ?_
  rintro _ w_50 ⟨F_49, rfl, hS_51, hm_52, K_53⟩
  have pr_54 : ∀ q_, F_49 q_ → ¬ own (some ⟨b_9, 0, none⟩) q_ := hm_52.apart pr_36 ho_12.own_lt
  have pr_55 : ∀ q_, F_49 q_ → ¬ ownS s_24 q_ := hm_52.apart (fun q_ h1 h2 => hap_31 q_ h2 h1) hO_27.own_lt
  have pr_56 : ¬ F_49 b_39 := hm_52.not pr_45 hb_42.lt
  have pg_57 : ∀ q_, F_49 q_ → w.heap.size ≤ q_ := hm_52.ge pg_37 K0.size
  replace ho_12 := ho_12.keepO K_53 (fun q_ h1 h2 => pr_36 q_ h2 h1)
  replace hO_27 := hO_27.keepO K_53 hap_31
  replace hb_42 := hb_42.keep K_53 pr_45
  replace K0 := K0.new K_53 pg_37
  clear hm_52
  refine RL.gst (wantedT1 rfl rfl rfl rfl) <| St1.val (litT (x_eqI rfl rfl) (by decide)) ?_
  refine RL.val (x_andT rfl rfl rfl) ?_
  refine RL.val (x_moveB rfl) ?_
  refine RL.gst (wantedT1 rfl rfl rfl rfl) <| St1.val (x_moveP rfl) ?_
  refine RL.gst (wantedT1 rfl rfl rfl rfl) <| St1.call (vals := [.pointer (some ⟨b_1, 0, none⟩)]) en8 rfl (nowD hS_51) ?_
  rintro _ w_58 ⟨rfl, K_59⟩
  replace ho_12 := ho_12.ext K_59
  replace hO_27 := hO_27.ext K_59
  replace hb_42 := hb_42.ext K_59
  replace hS_51 := hS_51.ext K_59
  replace K0 := K0.ext K_59
  refine RL.gst (wantedT1 rfl rfl rfl rfl) <| St1.val (litT (x_eqI rfl rfl) (by decide)) ?_
  refine RL.val (x_andT rfl rfl rfl) ?_
  refine RL.val (x_assignB rfl) ?_
  refine RL.nil ?_
  refine Run.ret1 (v := .bool (true)) Tryz.func6 rfl rfl ?_
  exact ⟨_, rfl, rfl, K0⟩

end Go.Proofs.YtdlaoncjiolckaaGreat
