/-
  Qs, Qt, Qu
-/
import Derived.Test.YtocgdeefgohdhaaGreatRows
import Derived.Test.YtocgdeefgohdhaaGreatPnQq
import Derived.Test.YtocgdeefgohdhaaGreatPnMap
import Derived.Test.YtocgdeefgohdhaaGreatPnI
set_option linter.all false
set_option maxRecDepth 100000
set_option maxHeartbeats 4000000
namespace Go.Proofs.YtocgdeefgohdhaaGreat
attribute [local irreducible] RD RS St1 RL RA RT RT1 Run
def ansN (Q : PM) : Int := if Q.answered = true then 1 else 0
structure OInv (Q : PM) (now : Int) : Prop where
  inv : MInv Q
  md : Q.made = true
  bg : Q.began = now
  da : Q.done = true → Q.answered = true
section
variable {Q : PM} {v : MV} {now nw : Int}
theorem onEnd_ans (S : Int) : (onEnd Q S).answered = (Q.answered || decide (S ≠ 0)) := rfl
theorem end_1 {S : Int} (h : onS Q S ≠ 0) : Q.answered = false ∧ (onEnd Q S).answered = true := by
  cases ha : Q.answered with
  | true => exact absurd (by rw [onS, if_pos ha]) h
  | false =>
    rw [onS, if_neg (by rw [ha]; decide)] at h
    exact ⟨rfl, by rw [onEnd_ans, ha, decide_eq_true h]; rfl⟩
theorem putS_lt' (h : putS Q = 0) : (keptN Q.got : Int) < Q.need := Int.not_le.1 fun h2 => by rw [putS_200 h2] at h; omega
theorem hgS_ne (h : hgX Q v false = true ∨ Q.got.length = Q.targets.length) : hgS Q v ≠ 0 := by
  have hend : ∀ {need fine : Int} {a c : MV}, Q.got.length = Q.targets.length → endS need fine a c Q.got.length Q.targets.length ≠ 0 := by
    intro need fine a c hl
    by_cases h1 : need ≤ fine ∧ leqX a.mrk a.cl c.mrk c.cl
    · by_cases h2 : c.mrk = [] ∧ c.cl = []
      · rw [endS_404 h1.1 h1.2 h2]; decide
      · rw [endS_200 h1.1 h1.2 h2]; decide
    · rw [endS_503 h1 hl]; decide
  by_cases h1 : canV v = 0
  · by_cases h2 : joinN Q.cart v = 0
    · obtain ⟨-, -, e3, e4⟩ := hg_yes h1 h2
      rw [e4]
      exact hend (h.resolve_left (by rw [e3]; decide))
    · rw [(hg_bad h1 h2).2.2.2]; decide
  · obtain ⟨-, -, e3, e4⟩ := hg_no (Q := Q) h1
    rw [e4]
    exact hend (h.resolve_left (by rw [e3]; decide))
theorem putS_ne (h : Q.got.length = Q.targets.length) : putS Q ≠ 0 := fun e => by
  have h1 := putS_lt' e
  have h2 : ¬ Q.need ≤ (Q.targets.length : Int) - ((Q.got.length : Int) - keptN Q.got) := by rw [← h]; omega
  unfold putS at e
  rw [if_neg (by omega), if_neg h2] at e
  split at e <;> omega
theorem OInv.on (h : OInv Q now) : OInv (onN Q v) now := by
  refine ⟨h.inv.on, ?_, ?_, ?_⟩
  · by_cases ho : onOk Q v = true
    · cases hp : Q.put with
      | true => rw [(onN_put ho hp).1]; exact h.md
      | false => rw [(onN_get ho hp).1]; exact h.md
    · rw [(onN_no ho).1]; exact h.md
  · by_cases ho : onOk Q v = true
    · cases hp : Q.put with
      | true => rw [(onN_put ho hp).1]; exact h.bg
      | false => rw [(onN_get ho hp).1]; exact h.bg
    · rw [(onN_no ho).1]; exact h.bg
  · by_cases ho : onOk Q v = true
    · have hd : Q.done = false := by
        have h2 := ho
        unfold onOk at h2
        simp only [Bool.and_eq_true, Bool.not_eq_true'] at h2
        exact h2.1.1.1.2
      cases hp : Q.put with
      | true =>
        rw [(onN_put ho hp).1]
        intro hdn
        have h2 : (Q.done || decide ((Q.got ++ [v]).length = Q.targets.length)) = true := hdn
        rw [hd, Bool.false_or] at h2
        show (Q.answered || decide (putS (pAdd Q v) ≠ 0)) = true
        rw [decide_eq_true (putS_ne (Q := pAdd Q v) (of_decide_eq_true h2)), Bool.or_true]
      | false =>
        rw [(onN_get ho hp).1]
        intro hdn
        have h2 : (hgX (pAdd Q v) v Q.done || decide ((Q.got ++ [v]).length = Q.targets.length)) = true := hdn
        rw [hd, Bool.or_eq_true] at h2
        show (Q.answered || decide (hgS (pAdd Q v) v ≠ 0)) = true
        rw [decide_eq_true (hgS_ne (Q := pAdd Q v) (h2.imp (fun h => h) of_decide_eq_true)), Bool.or_true]
    · rw [(onN_no ho).1]; exact h.da
theorem OInv.tick (h : OInv Q now) : OInv (tickN Q nw) now := by
  by_cases hk : tickOk Q nw = true
  · have e : tickN Q nw = qD Q (if Q.answered = true then Q.status else 504) := by rw [tickN, if_pos hk]
    exact ⟨h.inv.tick, by rw [e]; exact h.md, by rw [e]; exact h.bg, fun _ => by rw [e]⟩
  · rw [(tick_no hk).1]; exact h
end
end Go.Proofs.YtocgdeefgohdhaaGreat

namespace Go.Proofs.YtocgdeefgohdhaaGreat
attribute [local irreducible] RD RS St1 RL RA RT RT1 Run
def LeqE (ms : List MarkC) (cl : List DotC) (es : List EntryC) (ms2 : List MarkC) (cl2 : List DotC) (es2 : List EntryC) : Prop := leqX ms cl ms2 cl2 ∧ ∀ x ∈ es2, Cov ms cl x.dot → x ∈ es
instance (ms : List MarkC) (cl : List DotC) (es : List EntryC) (ms2 : List MarkC) (cl2 : List DotC) (es2 : List EntryC) : Decidable (LeqE ms cl es ms2 cl2 es2) := by unfold LeqE; infer_instance
def LeqV (a b : MV) : Prop := LeqE a.mrk a.cl a.ent b.mrk b.cl b.ent
theorem canX_canon {ms : List MarkC} {cl : List DotC} (h : CanX ms cl) : Canon ms cl := h.canon
theorem canV_can {a : MV} (h : canV a = 0) : CanC a.mrk a.cl a.ent := canE_can (by unfold canV at h; exact h)
theorem joinN_parts {a b : MV} (h : joinN a b = 0) : canV a = 0 ∧ canV b = 0 ∧ (joinE a.mrk a.cl b.mrk b.cl).1 = 0 ∧ joinC a.mrk a.cl a.ent b.mrk b.cl b.ent = (0, (joinE a.mrk a.cl b.mrk b.cl).2, keptJ a.mrk a.cl a.ent b.mrk b.cl b.ent) := by
  unfold joinN at h
  unfold canV
  by_cases h1 : canE a.mrk a.cl a.ent = 0
  · by_cases h2 : canE b.mrk b.cl b.ent = 0
    · by_cases h3 : (joinE a.mrk a.cl b.mrk b.cl).1 = 0
      · by_cases h4 : 64 < (keptJ a.mrk a.cl a.ent b.mrk b.cl b.ent).length ∨ 32 < itemsN (keptJ a.mrk a.cl a.ent b.mrk b.cl b.ent)
        · rw [joinC_d h1 h2 h3 h4] at h; exact absurd h (by decide)
        · by_cases h5 : Clash a.ent b.ent
          · rw [joinC_e h1 h2 h3 h4 h5] at h; exact absurd h (by decide)
          · exact ⟨h1, h2, h3, joinC_ok h1 h2 h3 h4 h5⟩
      · rw [joinC_c h1 h2 h3] at h; exact absurd h h3
    · rw [joinC_b h1 h2] at h; exact absurd h h2
  · rw [joinC_a h1] at h; exact absurd h h1
theorem joinE_cov {ms ms2 : List MarkC} {cl cl2 : List DotC} (hA : CanX ms cl) (hB : CanX ms2 cl2) (h : (joinE ms cl ms2 cl2).1 = 0) (d : DotC) : Cov (joinE ms cl ms2 cl2).2.1 (joinE ms cl ms2 cl2).2.2 d ↔ Cov ms cl d ∨ Cov ms2 cl2 d := by
  have hM : ∀ m ∈ ms ++ ms2, mayD m.d := fun m hm => (List.mem_append.1 hm).elim (fun h => hA.may h) (fun h => hB.may h)
  have hD : ∀ d ∈ cl ++ cl2, mayD d := fun d hd => (List.mem_append.1 hd).elim (fun h => hA.mayC h) (fun h => hB.mayC h)
  have hp := may_pos hM hD
  obtain ⟨hcn, hcv⟩ := normX_spec hp.1 hp.2
  rw [joinE_yes (canX_yes hA) (canX_yes hB)] at h ⊢
  by_cases hl : 64 < (normX (ms ++ ms2) (cl ++ cl2)).1.length ∨ 64 < (normX (ms ++ ms2) (cl ++ cl2)).2.length
  · rw [(normE_eq hM hD).1 hl] at h; exact absurd h (by decide)
  · rw [(normE_eq hM hD).2 hl]
    refine (hcv d).trans ?_
    rw [(canX_canon hA).raw, (canX_canon hB).raw]
    unfold Raw
    constructor
    · rintro ⟨h1, ⟨m, hm, h2⟩ | h2⟩
      · rcases List.mem_append.1 hm with hm | hm
        · exact .inl ⟨h1, .inl ⟨m, hm, h2⟩⟩
        · exact .inr ⟨h1, .inl ⟨m, hm, h2⟩⟩
      · rcases List.mem_append.1 h2 with h2 | h2
        · exact .inl ⟨h1, .inr h2⟩
        · exact .inr ⟨h1, .inr h2⟩
    · rintro (⟨h1, ⟨m, hm, h2⟩ | h2⟩ | ⟨h1, ⟨m, hm, h2⟩ | h2⟩)
      · exact ⟨h1, .inl ⟨m, List.mem_append_left _ hm, h2⟩⟩
      · exact ⟨h1, .inr (List.mem_append_left _ h2)⟩
      · exact ⟨h1, .inl ⟨m, List.mem_append_right _ hm, h2⟩⟩
      · exact ⟨h1, .inr (List.mem_append_right _ h2)⟩
section
variable {a b c : MV}
theorem joinV_cov (h : joinN a b = 0) (d : DotC) : Cov (joinV a b).mrk (joinV a b).cl d ↔ Cov a.mrk a.cl d ∨ Cov b.mrk b.cl d := by
  obtain ⟨h1, h2, h3, h4⟩ := joinN_parts h
  unfold joinV
  show Cov (joinC a.mrk a.cl a.ent b.mrk b.cl b.ent).2.1.1 (joinC a.mrk a.cl a.ent b.mrk b.cl b.ent).2.1.2 d ↔ _
  rw [h4]
  exact joinE_cov (canV_can h1).ctx (canV_can h2).ctx h3 d
theorem joinV_ent (h : joinN a b = 0) (x : EntryC) : x ∈ (joinV a b).ent → (x ∈ a.ent ∧ (x ∈ b.ent ∨ ¬ Cov b.mrk b.cl x.dot)) ∨ (x ∈ b.ent ∧ ¬ Cov a.mrk a.cl x.dot) := by
  obtain ⟨h1, h2, h3, h4⟩ := joinN_parts h
  unfold joinV
  show x ∈ (joinC a.mrk a.cl a.ent b.mrk b.cl b.ent).2.2 → _
  rw [h4]
  intro hx
  rw [keptJ, sortE_mem, List.mem_append] at hx
  rcases hx with hx | hx
  · obtain ⟨h5, h6⟩ := List.mem_filter.1 hx
    refine .inl ⟨h5, ?_⟩
    simpa [Bool.or_eq_true] using h6
  · exact .inr (kB_mem.1 hx)
theorem LeqV.left (hc : CxV c) (hA : CxV a) (h : joinN a b = 0) (hl : LeqV c a) : LeqV c (joinV a b) := by
  have hcov := (leqX_iff (canX_canon hc) (canX_canon hA)).1 hl.1
  refine ⟨(leqX_iff (canX_canon hc) (canX_canon (joinV_can h))).2 fun d hd => (joinV_cov h d).2 (.inl (hcov d hd)), fun x hx hd => ?_⟩
  rcases joinV_ent h x hx with h1 | h1
  · exact hl.2 x h1.1 hd
  · exact absurd (hcov _ hd) h1.2
theorem LeqV.right (h : joinN a b = 0) : LeqV b (joinV a b) := by
  have hB := (canV_can (joinN_parts h).2.1).ctx
  refine ⟨(leqX_iff (canX_canon hB) (canX_canon (joinV_can h))).2 fun d hd => (joinV_cov h d).2 (.inr hd), fun x hx hd => ?_⟩
  rcases joinV_ent h x hx with h1 | h1
  · exact h1.2.elim id fun h2 => absurd hd h2
  · exact h1.1
end
structure SInv (Q : PM) (tk : List Int) (L : List Mg) : Prop where
  inv : MInv Q
  md : Q.made = true
  get : Q.put = false
  da : Q.done = true → Q.answered = true
  tk : Q.answered = false → tk = Q.got.map MV.frm
  fine : Q.answered = false → Q.fine = (L.length : Int)
  leq : Q.answered = false → ∀ p ∈ L, canV p.v = 0 ∧ LeqV p.v Q.cart
  en : Q.cart.ent.length ≤ 64
section
variable {Q : PM} {tk tk' : List Int} {L L' : List Mg} {v : MV} {s : Six}
theorem onSt_ans (h : Q.answered = true) : onSt Q v = 0 := by
  by_cases ho : onOk Q v = true
  · cases hp : Q.put with
    | true => rw [(onN_put ho hp).2.2.1]; show onS (pAdd Q v) _ = 0; rw [onS, if_pos h]
    | false => rw [(onN_get ho hp).2.2.1]; show onS (hearPM (pAdd Q v) v) _ = 0; rw [onS, if_pos (show (hearPM (pAdd Q v) v).answered = true from h)]
  · exact (onN_no ho).2.2
theorem onN_ans (h : Q.answered = true) : (onN Q v).answered = true := by
  by_cases ho : onOk Q v = true
  · cases hp : Q.put with
    | true => rw [(onN_put ho hp).1]; show (Q.answered || _) = true; rw [h]; rfl
    | false => rw [(onN_get ho hp).1]; show (Q.answered || _) = true; rw [h]; rfl
  · rw [(onN_no ho).1]; exact h
theorem hgC_ent (h : Q.cart.ent.length ≤ 64) : (hgC Q v).ent.length ≤ 64 := by
  by_cases h1 : canV v = 0
  · by_cases h2 : joinN Q.cart v = 0
    · rw [(hg_yes h1 h2).1]; unfold joinV; exact joinC_len
    · rw [(hg_bad h1 h2).1]; exact h
  · rw [(hg_no h1).1]; exact h
theorem SInv.en2 (h : SInv Q tk L) : (onN Q v).cart.ent.length ≤ 64 := by
  by_cases ho : onOk Q v = true
  · rw [(onN_get ho h.get).1]; exact hgC_ent (Q := pAdd Q v) h.en
  · rw [(onN_no ho).1]; exact h.en
theorem SInv.base (h : SInv Q tk L) : MInv (onN Q v) ∧ (onN Q v).made = true ∧ (onN Q v).put = false ∧ ((onN Q v).done = true → (onN Q v).answered = true) := by
  have ho : OInv Q Q.began := ⟨h.inv, h.md, rfl, h.da⟩
  have h2 : OInv (onN Q v) Q.began := ho.on
  refine ⟨h2.inv, h2.md, ?_, h2.da⟩
  by_cases ho : onOk Q v = true
  · rw [(onN_get ho h.get).1]; exact h.get
  · rw [(onN_no ho).1]; exact h.get
theorem SInv.done (h : SInv Q tk L) (ha : Q.answered = true) : SInv (onN Q v) tk' L' := by
  obtain ⟨h1, h2, h3, h4⟩ := h.base (v := v)
  have e := onN_ans (v := v) ha
  exact ⟨h1, h2, h3, h4, fun h => (by rw [e] at h; cases h), fun h => (by rw [e] at h; cases h), fun h => (by rw [e] at h; cases h), h.en2⟩
theorem SInv.told (h : SInv Q tk L) (hs : onSt Q v ≠ 0) : SInv (onN Q v) tk' L' := by
  obtain ⟨h1, h2, h3, h4⟩ := h.base (v := v)
  have e : (onN Q v).answered = true := by
    have ho : onOk Q v = true := by
      by_cases ho : onOk Q v = true
      · exact ho
      · exact absurd (onN_no ho).2.2 hs
    obtain ⟨e1, -, e3, -⟩ := onN_get ho h.get
    rw [e3] at hs
    rw [e1]; exact (end_1 (Q := hearPM (pAdd Q v) v) hs).2
  exact ⟨h1, h2, h3, h4, fun h => (by rw [e] at h; cases h), fun h => (by rw [e] at h; cases h), fun h => (by rw [e] at h; cases h), h.en2⟩
theorem SInv.no (h : SInv Q tk L) (ho : ¬ onOk Q v = true) : SInv (onN Q v) tk L := by rw [(onN_no ho).1]; exact h
theorem SInv.hear (h : SInv Q tk L) (ho : onOk Q v = true) (ha : Q.answered = false) : onSt Q v = hgS (pAdd Q v) v ∧ onVl Q v = toldV (hgC (pAdd Q v) v) (hgS (pAdd Q v) v) ∧ onN Q v = onGet Q v := by
  obtain ⟨e1, -, e3, e4⟩ := onN_get ho h.get
  refine ⟨?_, e4, e1⟩
  rw [e3, onS, if_neg (show ¬ (hearPM (pAdd Q v) v).answered = true from by show ¬ Q.answered = true; rw [ha]; decide)]
theorem SInv.cx (h : SInv Q tk L) : CxV Q.cart := h.inv.cx h.get
noncomputable def seenL (L : List Mg) (v : MV) (s : Six) : List Mg := L ++ (if canV v = 0 then [⟨v, s⟩] else [])
theorem SInv.leq2 (h : SInv Q tk L) (ha : Q.answered = false) (hj : ¬ (canV v = 0 ∧ joinN Q.cart v ≠ 0)) : (∀ p ∈ seenL L v s, canV p.v = 0 ∧ LeqV p.v (hgC (pAdd Q v) v)) ∧ hgF (pAdd Q v) v = ((seenL L v s).length : Int) := by
  have hf := h.fine ha
  have hl := h.leq ha
  unfold seenL
  by_cases h1 : canV v = 0
  · have h2 : joinN Q.cart v = 0 := Decidable.byContradiction fun h2 => hj ⟨h1, h2⟩
    obtain ⟨e1, e2, -, -⟩ := hg_yes (Q := pAdd Q v) h1 h2
    rw [e1, e2, if_pos h1, List.length_append]
    refine ⟨fun p hp => ?_, by show Q.fine + 1 = _; rw [hf]; simp⟩
    rcases List.mem_append.1 hp with hp | hp
    · exact ⟨(hl p hp).1, LeqV.left (canV_can (hl p hp).1).ctx h.cx h2 (hl p hp).2⟩
    · rw [List.mem_singleton] at hp; subst hp; exact ⟨h1, LeqV.right h2⟩
  · obtain ⟨e1, e2, -, -⟩ := hg_no (Q := pAdd Q v) h1
    rw [e1, e2, if_neg h1, List.append_nil]
    exact ⟨hl, hf⟩
theorem SInv.quiet (h : SInv Q tk L) (ho : onOk Q v = true) (ha : Q.answered = false) (hs : onSt Q v = 0) : SInv (onN Q v) (tk ++ [v.frm]) (seenL L v s) := by
  obtain ⟨h1, h2, h3, h4⟩ := h.base (v := v)
  obtain ⟨e1, e2, e3⟩ := h.hear ho ha
  rw [e1] at hs
  have hj : ¬ (canV v = 0 ∧ joinN Q.cart v ≠ 0) := fun hj => by rw [(hg_bad (Q := pAdd Q v) hj.1 hj.2).2.2.2] at hs; exact absurd hs (by decide)
  obtain ⟨h5, h6⟩ := h.leq2 (s := s) ha hj
  refine ⟨h1, h2, h3, h4, fun _ => ?_, fun _ => ?_, fun _ => ?_, h.en2⟩
  · rw [e3, h.tk ha]; show _ = (Q.got ++ [v]).map MV.frm; rw [List.map_append]; rfl
  · rw [e3]; exact h6
  · rw [e3]; exact h5
theorem SInv.ok200 (h : SInv Q tk L) (ho : onOk Q v = true) (ha : Q.answered = false) (hs : onSt Q v = 200) :
    Q.need ≤ ((seenL L v s).length : Int) ∧ leqX Q.seen.mrk Q.seen.cl (onVl Q v).mrk (onVl Q v).cl ∧ (∀ p ∈ seenL L v s, canV p.v = 0 ∧ LeqV p.v (onVl Q v)) ∧ CxV (onVl Q v) ∧ (onVl Q v).ent.length ≤ 64 := by
  obtain ⟨e1, e2, e3⟩ := h.hear ho ha
  rw [e1] at hs
  have hj : ¬ (canV v = 0 ∧ joinN Q.cart v ≠ 0) := fun hj => by rw [(hg_bad (Q := pAdd Q v) hj.1 hj.2).2.2.2] at hs; exact absurd hs (by decide)
  obtain ⟨h5, h6⟩ := h.leq2 (s := s) ha hj
  have e4 : onVl Q v = hgC (pAdd Q v) v := by rw [e2, hs, toldV, if_pos rfl]
  have hend : hgS (pAdd Q v) v = endS Q.need (hgF (pAdd Q v) v) Q.seen (hgC (pAdd Q v) v) (Q.got ++ [v]).length Q.targets.length := by
    by_cases h1 : canV v = 0
    · have h2 : joinN Q.cart v = 0 := Decidable.byContradiction fun h2 => hj ⟨h1, h2⟩
      obtain ⟨e1, e2, -, e4⟩ := hg_yes (Q := pAdd Q v) h1 h2
      rw [e4, e1, e2]
    · obtain ⟨e1, e2, -, e4⟩ := hg_no (Q := pAdd Q v) h1
      rw [e4, e1, e2]
  rw [hend] at hs
  have hn : Q.need ≤ hgF (pAdd Q v) v ∧ leqX Q.seen.mrk Q.seen.cl (hgC (pAdd Q v) v).mrk (hgC (pAdd Q v) v).cl := by
    apply Decidable.byContradiction
    intro hn
    by_cases hl : (Q.got ++ [v]).length = Q.targets.length
    · rw [endS_503 hn hl] at hs; exact absurd hs (by decide)
    · rw [endS_0 hn hl] at hs; exact absurd hs (by decide)
  rw [e4]
  exact ⟨h6 ▸ hn.1, hn.2, h5, hgC_can (Q := pAdd Q v) h.cx, hgC_ent (Q := pAdd Q v) h.en⟩
end
attribute [local irreducible] X
theorem rLeq5_ (am : Option Addr) (ms : List MarkC) (cm : Nat) (ac : Option Addr) (cl : List DotC) (cc : Nat) (ae : Option Addr) (es : List EntryC) (ce : Nat) (am2 : Option Addr) (ms2 : List MarkC) (cm2 : Nat) (ac2 : Option Addr) (cl2 : List DotC) (cc2 : Nat) (ae2 : Option Addr) (es2 : List EntryC) (ce2 : Nat) (w : World) (hs : SlOf w am ms) (ht : SlOf w ac cl) (hse : SlOf w ae es) (hs2 : SlOf w am2 ms2) (ht2 : SlOf w ac2 cl2) (hse2 : SlOf w ae2 es2) (hl : ms.length ≤ 4294967295) (hl2 : cl.length ≤ 4294967295) (hl3 : es.length ≤ 4294967295) (hl4 : ms2.length ≤ 4294967295) (hl5 : cl2.length ≤ 4294967295) (hl6 : es2.length ≤ 4294967295) (hx : CanX ms cl) (hx2 : CanX ms2 cl2) :
  Calls Tryz.prog 14 #[.agg #[.slice (ae) (es.length) (ce), .slice (am) (ms.length) (cm), .slice (ac) (cl.length) (cc)], .agg #[.slice (ae2) (es2.length) (ce2), .slice (am2) (ms2.length) (cm2), .slice (ac2) (cl2.length) (cc2)]] w (Ret (fun v w' => v = .bool (decide (LeqE ms cl es ms2 cl2 es2)) ∧ Ext w w')) := by
 refine calls_run (n := 32) Tryz.func14 rfl rfl rfl ?_; refine jG ?_; refine jR <| jB ?_; intro a6 aj ad a0 ah; have : w.heap.size ≤ a6 := ad; clear ad; have K0 := (ah : Ext w _); refine jR <| jB ?_; intro ai ak a7 a1 af; have al := ltLe a0.lt a7; have := Nat.le_trans K0.size a7; clear a7; replace a0 := a0.ext af; refine jG ?_; replace K0 := K0.ext af; refine jR <| jC (rleq_ am ms cm ac cl cc am2 ms2 cm2 ac2 cl2 cc2 _ (hs.ext K0) (ht.ext K0) (hs2.ext K0) (ht2.ext K0) (by omega) (by omega) (by omega) (by omega) hx2.canon) ?_; rintro _ an ⟨rfl, a8⟩; refine jG ?_; replace a0 := a0.ext a8; replace a1 := a1.ext a8; replace K0 := K0.ext a8; refine jF ?_ ?_
 ·intro hc12
  refine jG ?_; refine jJ Tryz.func14 ?_; exact ⟨_, rfl, by rw [decide_eq_false (fun h => by have h2 := h.1; simp_all)], K0⟩
 ·intro hc12
  refine jG ?_; refine Run.loop (ι := Nat) (fun i ρ' w' => Holds ρ' [(2, jp a6), (14, .slice (ae2) (es2.length) (ce2)), (15, .int .i64 (((es2.length : Nat) : Int))), (16, .int .i64 (((i : Nat) : Int)))] ∧ Ext w w' ∧ (Blk w' a6 [.slice (ae) (es.length) (ce), .slice (am) (ms.length) (cm), .slice (ac) (cl.length) (cc)] 29) ∧ (Blk w' ai [.slice (ae2) (es2.length) (ce2), .slice (am2) (ms2.length) (cm2), .slice (ac2) (cl2.length) (cc2)] 29) ∧ (i ≤ es2.length) ∧ (∀ j, j < i → ∀ x, es2[j]? = some x → Cov ms cl x.dot → x ∈ es)) (fun i => es2.length - i) 0 ?_ ?_
  ·refine ⟨⟨rfl, rfl, rfl, rfl, trivial⟩, K0, a0, a1, ?_, ?_⟩
   ·omega
   ·exact fun j hj => absurd hj (Nat.not_lt_zero j)
  clear a0 a1; clear K0; rintro i ao ap ⟨ag, K0, a0, a1, hi, hk⟩ ih1; obtain ⟨ρ₀, rfl⟩ := ag.ex; clear ag; refine jG ?_; refine jF ?_ ?_
  ·intro hc17
   obtain ⟨aq, ar, x, hx3, au, a3⟩ := hse2.eo i; have hc_20_lt := a3.lt; replace a3 := a3.ext K0; refine jG ?_; refine jR <| jA ?_; intro av aw a2 a4 a9; have ax := ltLe a0.lt a2; have ay := ltLe a1.lt a2; have az := ltLe a3.lt a2; have := Nat.le_trans K0.size a2; clear a2; refine jR <| jS a4 ?_; intro aA a4 aa; replace a0 := (a0.ext a9).kp aa; refine jG ?_; replace K0 := (K0.ext a9).n1 aa; refine jR <| jC (rcovC_ am ms cm ac cl cc ((x).dot) _ (hs.ext K0) (ht.ext K0) (by omega) (by omega) hx) ?_; rintro _ aB ⟨rfl, a5⟩; replace a0 := a0.ext a5; replace a4 := a4.ext a5; refine jG ?_; replace K0 := K0.ext a5; refine RL.gcall (vals := [.agg #[.slice (ae) (es.length) (ce), .slice (am) (ms.length) (cm), .slice (ac) (cl.length) (cc)], .agg #[.string ((x).item), .int .i64 (((x).dot).node), .int .i64 (((x).dot).life), .int .i64 (((x).dot).count), .int .i64 ((x).qty), .int .u64 ((x).price)]]) (wantedT rfl rfl rfl rfl) en50.h (fun hg => (mcons (gvr hg) (mcons (gvr hg) mnil))) (fun hg => (rhas_ am ms cm ac cl cc ae es ce x _ (hs.ext K0) (ht.ext K0) (hse.ext K0) (by omega) (by omega) (by omega))) ?_; intro aC ab; refine jG ?_; refine jV (x_and rfl rfl rfl) ?_; refine jG ?_; replace a1 := (((a1.ext a9).kp aa).ext a5).ext ab; replace a0 := a0.ext ab; replace K0 := K0.ext ab; refine jF ?_ ?_
   ·intro hc30
    refine jG ?_; refine jJ Tryz.func14 ?_; exact ⟨_, rfl, by rw [decide_eq_false (fun h => hc30.2 (h.2 x (mem_of_at hx3) hc30.1))], K0⟩
   ·intro hc30
    refine jG ?_; refine jV (litI (c := ((i + 1 : Nat) : Int)) (x_add rfl rfl (by omega) (by omega)) rfl) ?_; refine jG ?_; refine ih1 (i + 1) _ _ ?_ (by omega); refine ⟨⟨rfl, rfl, rfl, rfl, trivial⟩, K0, a0, a1, ?_, ?_⟩
    ·omega
    ·exact upto_succ hk (one_at hx3 (fun h => by simp_all))
  ·intro hc17
   refine jG ?_; refine jJ Tryz.func14 ?_; exact ⟨_, rfl, by rw [decide_eq_true ⟨by simpa using hc12, fun x hx h => by obtain ⟨j, hj, rfl⟩ := List.getElem_of_mem hx; exact hk j (by omega) _ (List.getElem?_eq_getElem hj) h⟩], K0⟩
end Go.Proofs.YtocgdeefgohdhaaGreat

namespace Go.Proofs.YtocgdeefgohdhaaGreat
attribute [local irreducible] RD RS St1 RL RA RT RT1 Run
def akT (tk : List Int) : List (Int × Value) := tk.map fun a => (a, .bool true)
theorem akT_get (tk : List Int) (a : Int) : (mget (akT tk) a).getD (.bool false) = .bool (decide (a ∈ tk)) := by
  induction tk with
  | nil => rfl
  | cons x tk ih =>
    unfold mget akT at *
    rw [List.map_cons, List.find?_cons]
    by_cases h : a = x
    · subst h; simp
    · rw [show decide (a = x) = false from decide_eq_false h]
      simp only [List.mem_cons, h, false_or]
      exact ih
theorem akT_none {tk : List Int} {a : Int} (h : a ∉ tk) : mget (akT tk) a = none := by
  unfold mget akT
  rw [Option.map_eq_none_iff, List.find?_eq_none]
  intro p hp
  obtain ⟨x, hx, rfl⟩ := List.mem_map.1 hp
  exact fun e => h (of_decide_eq_true e ▸ hx)
theorem akT_put {tk : List Int} {a : Int} (h : a ∉ tk) : mput (akT tk) a (.bool true) = akT (tk ++ [a]) := by
  have h1 := mfind_get a (akT tk) 0
  rw [akT_none h] at h1
  unfold mput
  rw [Option.map_eq_none_iff.1 h1, akT, akT, List.map_append]; rfl
def Mg.ct (p : Mg) : CartC := (mkC p.v p.s).cart
theorem ct_get {L : List Mg} {i : Nat} {x : CartC} (h : (L.map Mg.ct)[i]? = some x) : ∃ p ∈ L, x = Mg.ct p := by
  rw [List.getElem?_map, Option.map_eq_some_iff] at h
  obtain ⟨p, hp, rfl⟩ := h
  exact ⟨p, List.mem_of_getElem? hp, rfl⟩
def SeenAt (w : World) (L : List Mg) : Prop := ∀ p ∈ L, SixR w p.s p.v ∧ VOk p.v
theorem SeenAt.add {w : World} {L : List Mg} {v : MV} {s : Six} (h : SeenAt w L) (hR : SixR w s v) (hv : VOk v) : SeenAt w (L ++ [⟨v, s⟩]) := fun p hp => (List.mem_append.1 hp).elim (h p) fun h2 => by rw [List.mem_singleton] at h2; subst h2; exact ⟨hR, hv⟩
theorem seen_on {Q : PM} {v : MV} {req : Int} {ts : List TargetC} {tk : List Int} (hmd : Q.made = true) (hdn : Q.done = false) (hput : Q.put = false) (hreq : Q.req = req) (hts : Q.targets = ts) (htk : tk = Q.got.map MV.frm) :
    onOk Q v = ((((v.kind == 4) && (v.req == req)) && (ts.any fun t => decide (t.node = v.frm))) && !(decide (v.frm ∈ tk))) := by
  subst hreq; subst hts; subst htk
  unfold onOk openP
  rw [hmd, hdn, if_neg (by rw [hput]; decide), Bool.eq_iff_iff]
  have e : (Q.got.any fun x => decide (x.frm = v.frm)) = decide (v.frm ∈ Q.got.map MV.frm) := by
    rw [Bool.eq_iff_iff, List.any_eq_true, decide_eq_true_eq, List.mem_map]
    exact ⟨fun ⟨x, hx, h⟩ => ⟨x, hx, of_decide_eq_true h⟩, fun ⟨x, hx, h⟩ => ⟨x, hx, decide_eq_true h⟩⟩
  rw [e]
  simp only [Bool.and_eq_true, decide_eq_true_eq, beq_iff_eq, Bool.not_eq_true', Bool.true_and, Bool.not_false, and_assoc]
theorem onN_same {Q : PM} {v : MV} : (onN Q v).req = Q.req ∧ (onN Q v).targets = Q.targets ∧ (onN Q v).need = Q.need ∧ (onN Q v).seen = Q.seen := by
  by_cases ho : onOk Q v = true
  · cases hp : Q.put with
    | true => rw [(onN_put ho hp).1]; exact ⟨rfl, rfl, rfl, rfl⟩
    | false => rw [(onN_get ho hp).1]; exact ⟨rfl, rfl, rfl, rfl⟩
  · rw [(onN_no ho).1]; exact ⟨rfl, rfl, rfl, rfl⟩
structure SQ (Q : PM) (req nd : Int) (ts : List TargetC) (va : MV) : Prop where
  rq : Q.req = req
  ts : Q.targets = ts
  nd : Q.need = nd
  sn : Q.seen = va
theorem SQ.on {Q : PM} {req nd : Int} {ts : List TargetC} {va v : MV} (h : SQ Q req nd ts va) : SQ (onN Q v) req nd ts va := by
  obtain ⟨e1, e2, e3, e4⟩ := onN_same (Q := Q) (v := v)
  exact ⟨e1.trans h.rq, e2.trans h.ts, e3.trans h.nd, e4.trans h.sn⟩
theorem cov_lt {a b : Int} (h : b ≤ a) : decide (a < b) = false := decide_eq_false (by omega)
attribute [local irreducible] X
theorem seenF_ (t : TargetC) (b : Nat) (tk : Bool) (nw : Int) (v : MV) (s : Six) (w : World) (hx : Blk w b [.bool (tk), .int .i64 (nw), .int .i64 (v.kind), .int .i64 (v.frm), .int .i64 (v.to), .int .i64 (v.req), .string (v.key), .slice (s.ea) (v.ent.length) (s.ec), .slice (s.ma) (v.mrk.length) (s.mc), .slice (s.ca) (v.cl.length) (s.cc), .int .i64 (v.owner), .int .i64 (v.part), .int .i64 (v.n), .int .i64 (v.parts), .int .i64 (v.copies), .int .i64 (v.spots), .slice (s.ba) (v.mem.length) (s.bc), .slice (s.pa) (v.pe.length) (s.pc), .slice (s.sa) (v.su.length) (s.sc)] 50) :
  Calls Tryz.prog 9 #[.agg #[.int .i64 ((t).node), .int .i64 ((t).owner)], jp b] w (Ret (fun r w' => r = .bool (decide (t.node = v.frm)) ∧ Ext w w')) := by
 refine calls_run (n := 10) Tryz.func9 rfl rfl rfl ?_; refine jG ?_; refine jR <| jB ?_; intro a2 a3 a0 a4 a1; have a5 := ltLe hx.lt a0; have : w.heap.size ≤ a2 := a0; clear a0; have K0 := (a1 : Ext w _); replace hx := hx.ext a1; refine jG ?_; refine jJ Tryz.func9 ?_; exact ⟨_, rfl, congrArg Value.bool (by rw [Bool.eq_iff_iff]; simp), K0⟩
theorem rcanV_ (v : MV) (s : Six) (w : World) (hR : CartR w s v) (hv : VOk v) (hE : EntB v.ent) (hcap : v.ent.length ≤ s.ec) : Calls Tryz.prog 10 #[.agg #[.slice (s.ea) (v.ent.length) (s.ec), .slice (s.ma) (v.mrk.length) (s.mc), .slice (s.ca) (v.cl.length) (s.cc)]] w (Ret fun r w' => r = .int .i64 (canV v) ∧ Ext w w') := by
  unfold canV
  exact rCan_ s.ma v.mrk s.mc s.ca v.cl s.cc s.ea v.ent s.ec w hcap hR.mrk hR.cl hR.ent hv.mrk hv.cl hv.ent hE
theorem rleqV_ (a b : MV) (s t : Six) (w : World) (hA : CartR w s a) (hB : CartR w t b) (hoa : VOk a) (hx : CxV b) (h : leqX a.mrk a.cl b.mrk b.cl) : Calls Tryz.prog 13 #[.agg #[.slice (s.ma) (a.mrk.length) (s.mc), .slice (s.ca) (a.cl.length) (s.cc)], .agg #[.slice (t.ma) (b.mrk.length) (t.mc), .slice (t.ca) (b.cl.length) (t.cc)]] w (Ret fun r w' => r = .bool true ∧ Ext w w') := by
  have h2 := rleq_ s.ma a.mrk s.mc s.ca a.cl s.cc t.ma b.mrk t.mc t.ca b.cl t.cc w hA.mrk hA.cl hB.mrk hB.cl (by have := hoa.mrk; omega) (by have := hoa.cl; omega) (by have := hx.1; omega) (by have := hx.2.1; omega) hx.canon
  rwa [decide_eq_true h] at h2
theorem rLeqV_ (a b : MV) (s t : Six) (w : World) (hA : CartR w s a) (hB : CartR w t b) (hoa : VOk a) (hb : b.ent.length ≤ 64) (hxa : CxV a) (hx : CxV b) (h : LeqV a b) : Calls Tryz.prog 14 #[.agg #[.slice (s.ea) (a.ent.length) (s.ec), .slice (s.ma) (a.mrk.length) (s.mc), .slice (s.ca) (a.cl.length) (s.cc)], .agg #[.slice (t.ea) (b.ent.length) (t.ec), .slice (t.ma) (b.mrk.length) (t.mc), .slice (t.ca) (b.cl.length) (t.cc)]] w (Ret fun r w' => r = .bool true ∧ Ext w w') := by
  have h2 := rLeq5_ s.ma a.mrk s.mc s.ca a.cl s.cc s.ea a.ent s.ec t.ma b.mrk t.mc t.ca b.cl t.cc t.ea b.ent t.ec w hA.mrk hA.cl hA.ent hB.mrk hB.cl hB.ent (by have := hoa.mrk; omega) (by have := hoa.cl; omega) (by have := hoa.ent; omega) (by have := hx.1; omega) (by have := hx.2.1; omega) (by omega) hxa hx
  rwa [decide_eq_true (show LeqE a.mrk a.cl a.ent b.mrk b.cl b.ent from h)] at h2
theorem law_seen (bp : Bool) (self req nd now : Int) (id knd qty price : Int) (key item : ByteArray) (va : MV) (sa : Six) (al : Option Addr) (ts : List TargetC) (lc : Nat) (vc : MV) (sc : Six) (ad : Option Addr) (ds : List QDoC) (cd : Nat) (w : World) (hA : CartR w sa va) (hoa : CartOk va sa) (hl : SlOf w al ts) (hll : ts.length ≤ 1048576) (hlc : ts.length ≤ lc) (hC : CartR w sc vc) (hoc : CartOk vc sc) (hd : SlOf w ad ds) (hdl : ds.length ≤ 1048576) (hq : ∀ o ∈ ds, QDoOk w o) :
  Calls Tryz.prog 3 #[.agg #[.bool (bp), .int .i64 (self), .int .i64 (req), .int .i64 (id), .int .i64 (knd), .string (key), .string (item), .int .i64 (qty), .int .u64 (price), .slice (sa.ea) (va.ent.length) (sa.ec), .slice (sa.ma) (va.mrk.length) (sa.mc), .slice (sa.ca) (va.cl.length) (sa.cc), .slice (sc.ea) (vc.ent.length) (sc.ec), .slice (sc.ma) (vc.mrk.length) (sc.mc), .slice (sc.ca) (vc.cl.length) (sc.cc), .slice (al) (ts.length) (lc), .int .i64 (nd), .int .i64 (now)], .slice (ad) (ds.length) (cd)] w (Ret (fun r w' => r = .bool true ∧ Ext w w')) := by
 obtain ⟨ha1, ha2, ha3, -, -, -⟩ := hoa.ok; obtain ⟨hc1, hc2, hc3, -, -, -⟩ := hoc.ok; refine calls_run (n := 129) Tryz.func3 rfl rfl rfl ?_; refine jG ?_; refine jR <| jB ?_; intro a9 er bV a0 cK; have : w.heap.size ≤ a9 := bV; clear bV; have K0 := (cK : Ext w _); refine jG ?_; refine jR <| jS a0 ?_; intro es a0 cL; refine jG ?_; replace K0 := K0.n1 cL; refine jR <| jC (lbeginG_ self req nd now id knd qty price key item va sa al ts lc vc sc _ (hA.ext K0) hoa (hl.ext K0) hll hlc (hC.ext K0) hoc) ?_; rintro _ et (⟨eu, rfl, -, bo⟩ | ⟨ev, ax, ew, ey, ez, rfl, bq, cM, bN, cN, eA, bo⟩)
 ·replace a0 := a0.ext bo
  refine jG8 ?_; refine jV (x_not (b := true) rfl) ?_; refine jG ?_; refine jT <| jO (litT (x_ptrNil Tryz.underlying37 rfl rfl) rfl) ?_; refine jV (x_orF rfl rfl rfl) ?_; refine jG ?_; refine jT1 ?_; refine jG ?_; refine jJ Tryz.func3 ?_; replace K0 := K0.ext bo; exact ⟨_, rfl, rfl, K0⟩
 ·have cO := notNew bN a0.lt
  have cP := geTr K0.size bN; clear bN; clear cM cN; refine jG8 ?_; refine jV (x_not (b := true) rfl) ?_; refine jG ?_; refine jT <| jO (litF (x_ptrNil Tryz.underlying37 rfl rfl) rfl) ?_; refine jV (x_orF rfl rfl rfl) ?_; refine jG ?_; refine Run.condF rfl ?_; refine jG ?_; refine jR <| St1.makeMap (κ := Int) ?_; intro a8 cQ bF bW bO; replace a0 := a0.ext bo; have cR := notNew (ge_one bF) a0.lt; have cS := apartNew (ge_one bF) bq.own_lt; replace K0 := K0.ext bo; have cT := geTr K0.size (ge_one bF); clear bF; refine jG ?_; replace a0 := a0.ext bO; replace bq := bq.ext bO; replace K0 := K0.ext bO; refine Run.loop (ι := Nat) (fun i ρ' w' => ∃ F1 : Nat → Prop, ∃ Q : PM, ∃ tks : List Int, ∃ L : List Mg, ∃ a' : Option Addr, ∃ c' : Nat, Holds ρ' [(2, jp a9), (5, jp ax), (8, .slice (a') ((L.map Mg.ct).length) (c')), (9, .map (some a8)), (34, .slice (ad) (ds.length) (cd)), (35, .int .i64 (((ds.length : Nat) : Int))), (36, .int .i64 (((i : Nat) : Int)))] ∧ Ext w w' ∧ (Blk w' a9 [.bool (false), .int .i64 (self), .int .i64 (req), .int .i64 (id), .int .i64 (knd), .string (key), .string (item), .int .i64 (qty), .int .u64 (price), .slice (sa.ea) (va.ent.length) (sa.ec), .slice (sa.ma) (va.mrk.length) (sa.mc), .slice (sa.ca) (va.cl.length) (sa.cc), .slice (sc.ea) (vc.ent.length) (sc.ec), .slice (sc.ma) (vc.mrk.length) (sc.mc), .slice (sc.ca) (vc.cl.length) (sc.cc), .slice (al) (ts.length) (lc), .int .i64 (nd), .int .i64 (now)] 34) ∧ (MachAt w' ax F1 Q) ∧ (MapAt w' a8 (akT tks)) ∧ (OwnSl w' 29 a' c' (L.map Mg.ct)) ∧ (¬ F1 a9) ∧ (∀ q_, F1 q_ → ¬ one a8 q_) ∧ (∀ q_, F1 q_ → ¬ own a' q_) ∧ (∀ q_, F1 q_ → w.heap.size ≤ q_) ∧ (¬ one a8 a9) ∧ (∀ q_, one a8 q_ → ¬ own a' q_) ∧ (∀ q_, one a8 q_ → w.heap.size ≤ q_) ∧ (¬ own a' a9) ∧ (∀ q_, own a' q_ → w.heap.size ≤ q_) ∧ (i ≤ ds.length) ∧ (SInv Q tks L) ∧ (SQ Q req nd ts va) ∧ (SeenAt w L) ∧ (L.length ≤ i)) (fun i => ds.length - i) 0 ?_ ?_
  ·have cU := OwnSl.nil (α := CartC) cQ 29
   refine ⟨_, (⟨self, req, nd, now, id, key, va, ts, [], false, false, true, 0, false, nilV, 0, false⟩ : PM), [], [], _, _, ⟨rfl, rfl, rfl, rfl, rfl, rfl, rfl, trivial⟩, K0, a0, bq, bW, cU, cO, (fun q_ h1 h2 => cS q_ h2 h1), (fun q_ h1 h2 => (fun q_ h1 _ => own_none q_ h1) q_ h2 h1), cP, cR, (fun q_ h1 h2 => (fun q_ h1 _ => own_none q_ h1) q_ h2 h1), cT, (own_none a9), (fun q_ h1 => absurd h1 (own_none q_)), ?_, ?_, ?_, ?_, ?_⟩
   ·omega
   ·exact ⟨⟨⟨List.nodup_nil, fun x hx => absurd hx (by simp)⟩, fun _ => CxV.nil⟩, rfl, rfl, (fun e_ => by cases e_), fun _ => rfl, fun _ => rfl, fun _ p hp => absurd hp (by simp), Nat.zero_le _⟩
   ·exact ⟨rfl, rfl, rfl, rfl⟩
   ·exact fun p hp => absurd hp (by simp)
   ·exact Nat.le_refl 0
  clear a0 bq bW; clear K0; rintro i eB eC ⟨F1, Q, tks, L, a', c', bX, K0, a0, a4, a1, a3, af, ab, am, ag, ay, az, aA, aM, aN, hi, hS, hsq, hsn, hll⟩ ih1; obtain ⟨ρ₀, rfl⟩ := bX.ex; clear bX; refine jG ?_; refine jF ?_ ?_
  ·intro hc37
   obtain ⟨eD, eE, o, ho, eF, bs⟩ := hd.eo i; have hc_50_lt := bs.lt; refine jG1 ?_; obtain ⟨tk, nw, v, s, hoe, hR0, hv, hE, hcap⟩ := hq o (List.mem_of_getElem? ho); replace bs := bs.ext K0; refine jV (litV (v' := .agg #[.bool (tk), .int .i64 (nw), .int .i64 (v.kind), .int .i64 (v.frm), .int .i64 (v.to), .int .i64 (v.req), .string (v.key), .slice (s.ea) (v.ent.length) (s.ec), .slice (s.ma) (v.mrk.length) (s.mc), .slice (s.ca) (v.cl.length) (s.cc), .int .i64 (v.owner), .int .i64 (v.part), .int .i64 (v.n), .int .i64 (v.parts), .int .i64 (v.copies), .int .i64 (v.spots), .slice (s.ba) (v.mem.length) (s.bc), .slice (s.pa) (v.pe.length) (s.pc), .slice (s.sa) (v.su.length) (s.sc)]) (x_ldV (v := .agg #[.bool ((o).tick), .int .i64 ((o).now), .int .i64 (((o).msg).kind), .int .i64 (((o).msg).frm), .int .i64 (((o).msg).to), .int .i64 (((o).msg).req), .string (((o).msg).key), .slice ((((o).msg).cart).entries.a) ((((o).msg).cart).entries.len) ((((o).msg).cart).entries.cap), .slice (((((o).msg).cart).ctx).marks.a) (((((o).msg).cart).ctx).marks.len) (((((o).msg).cart).ctx).marks.cap), .slice (((((o).msg).cart).ctx).cloud.a) (((((o).msg).cart).ctx).cloud.len) (((((o).msg).cart).ctx).cloud.cap), .int .i64 (((o).msg).owner), .int .i64 (((o).msg).part), .int .i64 (((o).msg).n), .int .i64 ((((o).msg).ring).parts), .int .i64 ((((o).msg).ring).copies), .int .i64 ((((o).msg).ring).spots), .slice ((((o).msg).ring).members.a) ((((o).msg).ring).members.len) ((((o).msg).ring).members.cap), .slice (((o).msg).peers.a) (((o).msg).peers.len) (((o).msg).peers.cap), .slice (((o).msg).sums.a) (((o).msg).sums.len) (((o).msg).sums.cap)]) (y := o) ty50 rfl bs rfl) (by rw [hoe]; try rfl)) ?_; refine jR <| jA ?_; intro bG eG aX a2 bt; have eH := ltLe a0.lt aX; have eI := ltLe bs.lt aX; have aW := ltNo a4.own_lt aX; have bP := ltNo a1.own_lt aX; have bQ := ltNo a3.own_lt aX; have := Nat.le_trans K0.size aX; clear aX; refine jR <| jS a2 ?_; intro eJ a2 bu; replace a0 := (a0.ext bt).kp bu; refine jG ?_; refine jV (x_mkFunc (a := []) (c := [jp bG]) rfl rfl) ?_; replace K0 := (K0.ext bt).n1 bu; refine jR <| jC (containsFunc_t _ _ _ 9 _ (fun t => decide (t.node = v.frm)) en9.h _ (hl.ext K0) (by omega) (fun t _ w' K' => seenF_ t bG tk nw v s w' (a2.ext K'))) ?_; rintro _ eK ⟨rfl, aZ⟩; refine jG1 ?_; replace a4 := ((a4.ext bt).keepO bu (noOne aW)).ext aZ; replace a1 := ((a1.ext bt).keepO bu (noOne bP)).ext aZ; replace a3 := ((a3.ext bt).keepO bu (noOne bQ)).ext aZ; replace a0 := a0.ext aZ; replace a2 := a2.ext aZ; replace K0 := K0.ext aZ; by_cases hAn : Q.answered = true
   ·refine jG ?_
    refine jV (x_and rfl rfl rfl) ?_; refine jG ?_; refine jV (x_and rfl rfl rfl) ?_; refine jG ?_; refine jW ?_ (hx := by exact fun hg => (litV (v' := .bool (decide (v.frm ∈ tks))) (x_lookup (κ := Int) (a := v.frm) Tryz.underlying41 Tryz.underlying3 rfl ty4 (gvr hg) (gvr hg) a1) (akT_get _ _))); refine jG ?_; refine jV (x_and rfl rfl rfl) ?_; refine jG ?_; refine jF ?_ ?_
    ·intro hc66
     have hnt : v.frm ∉ tks := hc66.2; refine jG ?_; refine jR <| St1.mapUpdate (κ := Int) (a := v.frm) (v := .bool (true)) Tryz.underlying41 Tryz.underlying3 rfl rfl rfl rfl a1 ?_; intro cV bH bv; replace bH : MapAt cV a8 (akT (tks ++ [v.frm])) := (akT_put hnt ▸ bH); replace a1 := bH; clear bH; replace a2 := a2.keep bv bP; refine jG ?_; replace K0 := K0.new bv aA; refine jR <| jC (rcanV_ v s _ (hR0.ext K0).cart hv hE hcap) ?_; rintro _ eL ⟨rfl, b0⟩; refine jG ?_; replace a0 := (a0.keep bv ay).ext b0; replace a4 := (a4.keepO bv ab).ext b0; replace a3 := (a3.keepO bv (fun q_ h1 h2 => az q_ h2 h1)).ext b0; replace a1 := a1.ext b0; replace a2 := a2.ext b0; replace K0 := K0.ext b0; refine jF ?_ ?_
     ·intro hc75
      refine jG2 ?_; refine jG1 ?_; refine jV (litV (v' := .agg #[.slice (s.ea) (v.ent.length) (s.ec), .slice (s.ma) (v.mrk.length) (s.mc), .slice (s.ca) (v.cl.length) (s.cc)]) (x_lds (cs := #[.slice (s.ea) (v.ent.length) (s.ec), .slice (s.ma) (v.mrk.length) (s.mc), .slice (s.ca) (v.cl.length) (s.cc)]) ty29 rfl rfl (a2.cl.drop 7 3)) rfl) ?_; refine jR <| St1.buildSlice ([(Mg.ct ⟨v, s⟩)] : List CartC) Tryz.underlying40 ty29 rfl rfl (by first | decide | (simp [Enc.size])) ?_; intro eM eN cW cX b1; clear cW; replace a3 := a3.ext b1; refine jR <| St1.append (xs := L.map Mg.ct) (ys := ([(Mg.ct ⟨v, s⟩)] : List CartC)) Tryz.underlying40 ty29 rfl rfl rfl a3 cX.sl (by have h_ : (L.map Mg.ct).length = L.length := List.length_map ..; first | omega | (simp only [lr]; omega)) (by decide) ?_; intro b2 cY eO b3 bw bx cZ; replace a0 := a0.ext b1; have d0 : ¬ own b2 a9 := bx.not aM a0.lt; replace a4 := a4.ext b1; have bY : ∀ q_, own b2 q_ → ¬ F1 q_ := bx.apart (fun q_ h1 h2 => am q_ h2 h1) a4.own_lt; replace a1 := a1.ext b1; have d1 : ∀ q_, own b2 q_ → ¬ one a8 q_ := bx.apart (fun q_ h1 h2 => az q_ h2 h1) a1.own_lt; replace K0 := K0.ext b1; have d2 : ∀ q_, own b2 q_ → w.heap.size ≤ q_ := bx.ge aN K0.size; clear bx; clear cZ; replace a2 := (a2.ext b1).keep bw bQ; refine jG ?_; replace K0 := K0.new bw aN; refine jR <| jC (msg_ v s _ (hR0.ext K0) (by assumption)) ?_; rintro _ d3 ⟨d4, rfl, bZ, eP, d5, b4⟩; clear d5; replace a4 := (a4.keepO bw am).ext b4; refine jR <| jC (onA_ ax F1 Q v d4 _ a4 hS.inv bZ.r hv hE bZ.ent.le_cap) ?_; replace a0 := (a0.keep bw aM).ext b4; replace a1 := (a1.keepO bw az).ext b4; replace a2 := a2.ext b4; replace b3 := b3.ext b4; replace K0 := K0.ext b4; rintro _ eQ ⟨b5, eR, eS, eT, eU, rfl, d6, -, -, -, (⟨c0, rfl⟩ | ⟨c0, eV, eW, eX, rfl, eY, eZ, f0, f1, f2, f3, f4, f5⟩), b6, -, -, -, -, -, bz⟩
      ·replace b6 : MovedS d3 F1 b5 := b6
       have d7 : ¬ b5 a9 := b6.not af a0.lt; have d8 : ∀ q_, b5 q_ → ¬ one a8 q_ := b6.apart ab a1.own_lt; have d9 : ∀ q_, b5 q_ → ¬ own b2 q_ := b6.apart (fun q_ h1 h2 => bY q_ h2 h1) b3.own_lt; have db : ∀ q_, b5 q_ → w.heap.size ≤ q_ := b6.ge ag K0.size; clear a4; refine jG4 ?_; refine jG2 ?_; refine jV (litI (c := 0) (x_lenSl Tryz.underlying58 rfl) rfl) ?_; refine jG ?_; refine Run.unloop ?_; refine jG ?_; refine Run.condF rfl ?_; refine jG ?_; refine jV (litI (c := ((i + 1 : Nat) : Int)) (x_add rfl rfl (by omega) (by omega)) rfl) ?_; refine jG ?_; refine ih1 (i + 1) _ _ ?_ (by omega); refine ⟨b5, (onN Q v), (tks ++ [v.frm]), (L ++ [⟨v, s⟩]), b2, cY, ?_⟩; rw [show (L ++ [⟨v, s⟩] : List Mg).map Mg.ct = L.map Mg.ct ++ [(Mg.ct ⟨v, s⟩)] from by rw [List.map_append]; rfl]; replace a0 := a0.keep bz af; replace a1 := a1.keepO bz (fun q_ h1 h2 => ab q_ h2 h1); replace a2 := a2.keep bz aW; replace b3 := b3.keepO bz bY; replace K0 := K0.new bz ag; refine ⟨⟨rfl, rfl, rfl, rfl, rfl, rfl, rfl, trivial⟩, K0, a0, d6, a1, b3, d7, d8, d9, db, ay, (fun q_ h1 h2 => d1 q_ h2 h1), aA, d0, d2, ?_, ?_, ?_, ?_, ?_⟩
       ·omega
       ·exact hS.done hAn
       ·exact hsq.on
       ·exact hsn.add hR0 hv
       ·rw [List.length_append]; show L.length + 1 ≤ i + 1; omega
      ·exact absurd (onSt_ans hAn) c0
     ·intro hc75
      refine jG ?_; refine jR <| jC (msg_ v s _ (hR0.ext K0) (by assumption)) ?_; rintro _ dc ⟨dd, rfl, c1, f6, de, b7⟩; clear de; replace a4 := a4.ext b7; refine jR <| jC (onA_ ax F1 Q v dd _ a4 hS.inv c1.r hv hE c1.ent.le_cap) ?_; replace a0 := a0.ext b7; replace a1 := a1.ext b7; replace a3 := a3.ext b7; replace a2 := a2.ext b7; replace K0 := K0.ext b7; rintro _ f7 ⟨b8, f8, f9, fa, fb, rfl, df, -, -, -, (⟨c2, rfl⟩ | ⟨c2, fc, fd, fe, rfl, ff, fg, fh, fi, fj, fk, fl, fm⟩), b9, -, -, -, -, -, bA⟩
      ·replace b9 : MovedS dc F1 b8 := b9
       have dg : ¬ b8 a9 := b9.not af a0.lt; have dh : ∀ q_, b8 q_ → ¬ one a8 q_ := b9.apart ab a1.own_lt; have di : ∀ q_, b8 q_ → ¬ own a' q_ := b9.apart am a3.own_lt; have dj : ∀ q_, b8 q_ → w.heap.size ≤ q_ := b9.ge ag K0.size; clear a4; refine jG4 ?_; refine jG2 ?_; refine jV (litI (c := 0) (x_lenSl Tryz.underlying58 rfl) rfl) ?_; refine jG ?_; refine Run.unloop ?_; refine jG ?_; refine Run.condF rfl ?_; refine jG ?_; refine jV (litI (c := ((i + 1 : Nat) : Int)) (x_add rfl rfl (by omega) (by omega)) rfl) ?_; refine jG ?_; refine ih1 (i + 1) _ _ ?_ (by omega); replace a0 := a0.keep bA af; replace a1 := a1.keepO bA (fun q_ h1 h2 => ab q_ h2 h1); replace a3 := a3.keepO bA (fun q_ h1 h2 => am q_ h2 h1); replace a2 := a2.keep bA aW; replace K0 := K0.new bA ag; refine ⟨b8, (onN Q v), (tks ++ [v.frm]), L, a', c', ⟨rfl, rfl, rfl, rfl, rfl, rfl, rfl, trivial⟩, K0, a0, df, a1, a3, dg, dh, di, dj, ay, az, aA, aM, aN, ?_, ?_, ?_, ?_, ?_⟩
       ·omega
       ·exact hS.done hAn
       ·exact hsq.on
       ·exact hsn
       ·omega
      ·exact absurd (onSt_ans hAn) c2
    ·intro hc66
     refine jG ?_; refine jR <| jC (msg_ v s _ (hR0.ext K0) (by assumption)) ?_; rintro _ dk ⟨dl, rfl, c4, fn, dm, bb⟩; clear dm; replace a4 := a4.ext bb; refine jR <| jC (onA_ ax F1 Q v dl _ a4 hS.inv c4.r hv hE c4.ent.le_cap) ?_; replace a0 := a0.ext bb; replace a1 := a1.ext bb; replace a3 := a3.ext bb; replace a2 := a2.ext bb; replace K0 := K0.ext bb; rintro _ fo ⟨be, fp, fq, fr, fs, rfl, dn, -, -, -, (⟨c5, rfl⟩ | ⟨c5, ft, fu, fv, rfl, fw, fx, fy, fz, fA, fB, fC, fD⟩), bg, -, -, -, -, -, bB⟩
     ·replace bg : MovedS dk F1 be := bg
      have dp : ¬ be a9 := bg.not af a0.lt; have dq : ∀ q_, be q_ → ¬ one a8 q_ := bg.apart ab a1.own_lt; have dr : ∀ q_, be q_ → ¬ own a' q_ := bg.apart am a3.own_lt; have dt : ∀ q_, be q_ → w.heap.size ≤ q_ := bg.ge ag K0.size; clear a4; refine jG4 ?_; refine jG2 ?_; refine jV (litI (c := 0) (x_lenSl Tryz.underlying58 rfl) rfl) ?_; refine jG ?_; refine Run.unloop ?_; refine jG ?_; refine Run.condF rfl ?_; refine jG ?_; refine jV (litI (c := ((i + 1 : Nat) : Int)) (x_add rfl rfl (by omega) (by omega)) rfl) ?_; refine jG ?_; refine ih1 (i + 1) _ _ ?_ (by omega); replace a0 := a0.keep bB af; replace a1 := a1.keepO bB (fun q_ h1 h2 => ab q_ h2 h1); replace a3 := a3.keepO bB (fun q_ h1 h2 => am q_ h2 h1); replace a2 := a2.keep bB aW; replace K0 := K0.new bB ag; refine ⟨be, (onN Q v), tks, L, a', c', ⟨rfl, rfl, rfl, rfl, rfl, rfl, rfl, trivial⟩, K0, a0, dn, a1, a3, dp, dq, dr, dt, ay, az, aA, aM, aN, ?_, ?_, ?_, ?_, ?_⟩
      ·omega
      ·exact hS.done hAn
      ·exact hsq.on
      ·exact hsn
      ·omega
     ·exact absurd (onSt_ans hAn) c5
   ·by_cases hon : onOk Q v = true
    ·have hna : Q.answered = false := by simpa using hAn
     have hdn : Q.done = false := by
      cases hd_ : Q.done with
      | false => rfl
      | true => exact absurd (hS.da hd_) hAn
     refine jG ?_; refine jV (x_and rfl rfl rfl) ?_; refine jG ?_; refine jV (x_and rfl rfl rfl) ?_; refine jG ?_; refine jW ?_ (hx := by exact fun hg => (litV (v' := .bool (decide (v.frm ∈ tks))) (x_lookup (κ := Int) (a := v.frm) Tryz.underlying41 Tryz.underlying3 rfl ty4 (gvr hg) (gvr hg) a1) (akT_get _ _))); refine jG ?_; refine jV (litT (x_and rfl rfl rfl) (by rw [← seen_on hS.md hdn hS.get hsq.rq hsq.ts (hS.tk hna)]; exact hon)) ?_; refine jG ?_; refine jT1 ?_
     have hnt : v.frm ∉ tks := by
      have h_ := hon; rw [seen_on hS.md hdn hS.get hsq.rq hsq.ts (hS.tk hna), Bool.and_eq_true] at h_
      simpa using h_.2
     refine jG ?_; refine jR <| St1.mapUpdate (κ := Int) (a := v.frm) (v := .bool (true)) Tryz.underlying41 Tryz.underlying3 rfl rfl rfl rfl a1 ?_; intro du bI bC; replace bI : MapAt du a8 (akT (tks ++ [v.frm])) := (akT_put hnt ▸ bI); replace a1 := bI; clear bI; replace a2 := a2.keep bC bP; refine jG ?_; replace K0 := K0.new bC aA; refine jR <| jC (rcanV_ v s _ (hR0.ext K0).cart hv hE hcap) ?_; rintro _ fE ⟨rfl, bh⟩; refine jG ?_; replace a0 := (a0.keep bC ay).ext bh; replace a4 := (a4.keepO bC ab).ext bh; replace a3 := (a3.keepO bC (fun q_ h1 h2 => az q_ h2 h1)).ext bh; replace a1 := a1.ext bh; replace a2 := a2.ext bh; replace K0 := K0.ext bh; refine jF ?_ ?_
     ·intro hc75
      refine jG2 ?_; refine jG1 ?_; refine jV (litV (v' := .agg #[.slice (s.ea) (v.ent.length) (s.ec), .slice (s.ma) (v.mrk.length) (s.mc), .slice (s.ca) (v.cl.length) (s.cc)]) (x_lds (cs := #[.slice (s.ea) (v.ent.length) (s.ec), .slice (s.ma) (v.mrk.length) (s.mc), .slice (s.ca) (v.cl.length) (s.cc)]) ty29 rfl rfl (a2.cl.drop 7 3)) rfl) ?_; refine jR <| St1.buildSlice ([(Mg.ct ⟨v, s⟩)] : List CartC) Tryz.underlying40 ty29 rfl rfl (by first | decide | (simp [Enc.size])) ?_; intro dv fF bR aa bi; have c6 := apartNew (ge_new bR) a4.own_lt; have dw := apartNew (ge_new bR) a3.own_lt; clear bR; replace a3 := a3.ext bi; refine jR <| St1.append (xs := L.map Mg.ct) (ys := ([(Mg.ct ⟨v, s⟩)] : List CartC)) Tryz.underlying40 ty29 rfl rfl rfl a3 aa.sl (by have h_ : (L.map Mg.ct).length = L.length := List.length_map ..; first | omega | (simp only [lr]; omega)) (by decide) ?_; intro aB bj fG a7 bk bD dx; replace a0 := a0.ext bi; have bS : ¬ own aB a9 := bD.not aM a0.lt; replace a4 := a4.ext bi; have bJ : ∀ q_, own aB q_ → ¬ F1 q_ := bD.apart (fun q_ h1 h2 => am q_ h2 h1) a4.own_lt; replace a1 := a1.ext bi; have bT : ∀ q_, own aB q_ → ¬ one a8 q_ := bD.apart (fun q_ h1 h2 => az q_ h2 h1) a1.own_lt; replace K0 := K0.ext bi; have bU : ∀ q_, own aB q_ → w.heap.size ≤ q_ := bD.ge aN K0.size; clear bD; clear dx; replace a2 := (a2.ext bi).keep bk bQ; refine jG ?_; replace K0 := K0.new bk aN; refine jR <| jC (msg_ v s _ (hR0.ext K0) (by assumption)) ?_; rintro _ c7 ⟨c8, rfl, ac, fH, c9, aY⟩; replace a4 := a4.keepO bk am; have cb := apartNew c9 a4.own_lt; clear c9; replace a4 := a4.ext aY; refine jR <| jC (onA_ ax F1 Q v c8 _ a4 hS.inv ac.r hv hE ac.ent.le_cap) ?_; replace a0 := (a0.keep bk aM).ext aY; replace a1 := (a1.keepO bk az).ext aY; replace aa := (aa.keepO bk dw).ext aY; replace a2 := a2.ext aY; replace a7 := a7.ext aY; replace K0 := K0.ext aY; rintro _ fI ⟨an, fJ, fK, fL, fM, rfl, aj, -, -, -, (⟨bK, rfl⟩ | ⟨bK, ce, cf, a5, rfl, aq, ah, fN, dy, fO, fP, fQ, fR⟩), aC, -, -, -, -, -, ao⟩
      ·replace aC : MovedS c7 F1 an := aC
       have dz : ¬ an a9 := aC.not af a0.lt; have dA : ∀ q_, an q_ → ¬ one a8 q_ := aC.apart ab a1.own_lt; have dB : ∀ q_, an q_ → ¬ own aB q_ := aC.apart (fun q_ h1 h2 => bJ q_ h2 h1) a7.own_lt; have dC : ∀ q_, an q_ → w.heap.size ≤ q_ := aC.ge ag K0.size; clear a4; refine jG4 ?_; refine jG2 ?_; refine jV (litI (c := 0) (x_lenSl Tryz.underlying58 rfl) rfl) ?_; refine jG ?_; refine Run.unloop ?_; refine jG ?_; refine Run.condF rfl ?_; refine jG ?_; refine jV (litI (c := ((i + 1 : Nat) : Int)) (x_add rfl rfl (by omega) (by omega)) rfl) ?_; refine jG ?_; have hq3 := hS.quiet (s := s) hon hna bK; rw [show seenL L v s = L ++ [⟨v, s⟩] from by unfold seenL; rw [if_pos hc75]] at hq3; refine ih1 (i + 1) _ _ ?_ (by omega); refine ⟨an, (onN Q v), (tks ++ [v.frm]), (L ++ [⟨v, s⟩]), aB, bj, ?_⟩; rw [show (L ++ [⟨v, s⟩] : List Mg).map Mg.ct = L.map Mg.ct ++ [(Mg.ct ⟨v, s⟩)] from by rw [List.map_append]; rfl]; replace a0 := a0.keep ao af; replace a1 := a1.keepO ao (fun q_ h1 h2 => ab q_ h2 h1); replace a2 := a2.keep ao aW; replace aa := aa.keepO ao c6; replace a7 := a7.keepO ao bJ; replace ac := ac.keepO ao cb; replace K0 := K0.new ao ag; refine ⟨⟨rfl, rfl, rfl, rfl, rfl, rfl, rfl, trivial⟩, K0, a0, aj, a1, a7, dz, dA, dB, dC, ay, (fun q_ h1 h2 => bT q_ h2 h1), aA, bS, bU, ?_, ?_, ?_, ?_, ?_⟩
       ·omega
       ·exact hq3
       ·exact hsq.on
       ·exact hsn.add hR0 hv
       ·rw [List.length_append]; show L.length + 1 ≤ i + 1; omega
      ·have fS := notNew dy a0.lt
       replace aC : MovedS c7 F1 an := aC; have cg : ¬ an a9 := aC.not af a0.lt; have ch : ∀ q_, an q_ → ¬ one a8 q_ := aC.apart ab a1.own_lt; have ci : ∀ q_, an q_ → ¬ own aB q_ := aC.apart (fun q_ h1 h2 => bJ q_ h2 h1) a7.own_lt; have cj : ∀ q_, an q_ → w.heap.size ≤ q_ := aC.ge ag K0.size; clear a4; refine jG4 ?_; refine jG2 ?_; refine jV (litI (c := 1) (x_lenSl Tryz.underlying58 rfl) rfl) ?_; refine jG ?_; refine Run.unloop ?_; refine jG ?_; refine jT1 ?_; refine Jct ?_; obtain ⟨fT, fU, dD, dE, dF, ck⟩ := aq.sl.el (i := 0) (by simp); obtain rfl : (⟨Q.id, (onSt Q v), (mkC (onVl Q v) a5).cart⟩ : ToldC) = dD := Option.some.inj dE; refine jV (x_idxN Tryz.underlying58 ty63 rfl rfl dF (by simp)) ?_; refine jV (litV (v' := .agg #[.int .i64 (Q.id), .int .i64 (onSt Q v), .slice (a5.ea) ((onVl Q v).ent.length) (a5.ec), .slice (a5.ma) ((onVl Q v).mrk.length) (a5.mc), .slice (a5.ca) ((onVl Q v).cl.length) (a5.cc)]) (x_ldV (v := .agg #[.int .i64 (((⟨Q.id, (onSt Q v), (mkC (onVl Q v) a5).cart⟩ : ToldC)).id), .int .i64 (((⟨Q.id, (onSt Q v), (mkC (onVl Q v) a5).cart⟩ : ToldC)).status), .slice ((((⟨Q.id, (onSt Q v), (mkC (onVl Q v) a5).cart⟩ : ToldC)).cart).entries.a) ((((⟨Q.id, (onSt Q v), (mkC (onVl Q v) a5).cart⟩ : ToldC)).cart).entries.len) ((((⟨Q.id, (onSt Q v), (mkC (onVl Q v) a5).cart⟩ : ToldC)).cart).entries.cap), .slice (((((⟨Q.id, (onSt Q v), (mkC (onVl Q v) a5).cart⟩ : ToldC)).cart).ctx).marks.a) (((((⟨Q.id, (onSt Q v), (mkC (onVl Q v) a5).cart⟩ : ToldC)).cart).ctx).marks.len) (((((⟨Q.id, (onSt Q v), (mkC (onVl Q v) a5).cart⟩ : ToldC)).cart).ctx).marks.cap), .slice (((((⟨Q.id, (onSt Q v), (mkC (onVl Q v) a5).cart⟩ : ToldC)).cart).ctx).cloud.a) (((((⟨Q.id, (onSt Q v), (mkC (onVl Q v) a5).cart⟩ : ToldC)).cart).ctx).cloud.len) (((((⟨Q.id, (onSt Q v), (mkC (onVl Q v) a5).cart⟩ : ToldC)).cart).ctx).cloud.cap)]) (y := (⟨Q.id, (onSt Q v), (mkC (onVl Q v) a5).cart⟩ : ToldC)) ty63 rfl ck rfl) rfl) ?_; refine jR <| jA ?_; intro cm fV aD ar aO; replace a0 := a0.keep ao af; have fW := ltLe a0.lt aD; replace a2 := a2.keep ao aW; have fX := ltLe a2.lt aD; have fY := ltLe ck.lt aD; replace a1 := a1.keepO ao (fun q_ h1 h2 => ab q_ h2 h1); have dG := ltNo a1.own_lt aD; replace aa := aa.keepO ao c6; have dH := ltNo aa.own_lt aD; replace a7 := a7.keepO ao bJ; have dI := ltNo a7.own_lt aD; replace ac := ac.keepO ao cb; have dJ := ltNo ac.own_lt aD; have dK := ltNo aj.own_lt aD; have dL := ltNo aq.own_lt aD; have dM := ltNo ah.own_lt aD; replace K0 := K0.new ao ag; have := Nat.le_trans K0.size aD; clear aD; refine jR <| jS ar ?_; intro fZ ar aP; refine jG ?_; replace a0 := (a0.ext aO).kp aP; replace a1 := (a1.ext aO).keepO aP (noOne dG); replace a2 := (a2.ext aO).kp aP; replace aa := (aa.ext aO).keepO aP (noOne dH); replace a7 := (a7.ext aO).keepO aP (noOne dI); replace ac := (ac.ext aO).keepO aP (noOne dJ); replace aj := (aj.ext aO).keepO aP (noOne dK); replace aq := (aq.ext aO).keepO aP (noOne dL); replace ah := (ah.ext aO).keepO aP (noOne dM); replace K0 := (K0.ext aO).n1 aP; refine jF ?_ ?_
       ·intro hc98
        refine jG ?_; refine jV (litI (c := 1) (x_add rfl rfl (by decide) (by decide)) (by decide)) ?_; refine jG ?_; refine Run.inLoop ?_; refine jG ?_; refine Run.condF rfl ?_; refine jG ?_; refine jV (litI (c := ((i + 1 : Nat) : Int)) (x_add rfl rfl (by omega) (by omega)) rfl) ?_; refine jG ?_; refine ih1 (i + 1) _ _ ?_ (by omega); refine ⟨an, (onN Q v), (tks ++ [v.frm]), (L ++ [⟨v, s⟩]), aB, bj, ?_⟩; rw [show (L ++ [⟨v, s⟩] : List Mg).map Mg.ct = L.map Mg.ct ++ [(Mg.ct ⟨v, s⟩)] from by rw [List.map_append]; rfl]; refine ⟨⟨rfl, rfl, rfl, rfl, rfl, rfl, rfl, trivial⟩, K0, a0, aj, a1, a7, cg, ch, ci, cj, ay, (fun q_ h1 h2 => bT q_ h2 h1), aA, bS, bU, ?_, ?_, ?_, ?_, ?_⟩
        ·omega
        ·exact hS.told bK
        ·exact hsq.on
        ·exact hsn.add hR0 hv
        ·rw [List.length_append]; show L.length + 1 ≤ i + 1; omega
       ·intro hc98
        obtain ⟨hk1, hk2, hk3, hk4, hk5⟩ := hS.ok200 (s := s) hon hna (by simpa using hc98); rw [hsq.sn] at hk2; rw [hsq.nd] at hk1; have hsL : seenL L v s = L ++ [⟨v, s⟩] := by unfold seenL; rw [if_pos hc75]
        have hxs : (seenL L v s).map Mg.ct = L.map Mg.ct ++ [(Mg.ct ⟨v, s⟩)] := by rw [hsL, List.map_append]; rfl
        have hsn2 : SeenAt w (seenL L v s) := by rw [hsL]; exact hsn.add hR0 hv
        have hkb : (seenL L v s).length ≤ L.length + 1 := by rw [hsL]; first | exact Nat.le_succ _ | (rw [List.length_append]; exact Nat.le_refl _)
        have hkl : (L.map Mg.ct ++ [(Mg.ct ⟨v, s⟩)]).length = (seenL L v s).length := by rw [← hxs, List.length_map]
        refine jG4 ?_; refine jV (litF (x_ltI rfl rfl) (cov_lt (by rw [hkl]; exact hk1))) ?_; refine jG ?_; refine jT <| jC (rleqV_ va (onVl Q v) sa a5 _ (hA.ext K0) ah.r hoa.ok hk4 hk2) ?_; rintro _ g0 ⟨rfl, aH⟩; refine jT <| jO (x_not (b := true) rfl) ?_; refine jV (x_orF rfl rfl rfl) ?_; refine jG ?_; refine Run.condF rfl ?_; refine jG ?_; replace a0 := a0.ext aH; replace a1 := a1.ext aH; replace a2 := a2.ext aH; replace aa := aa.ext aH; replace a7 := a7.ext aH; replace ac := ac.ext aH; replace aj := aj.ext aH; replace aq := aq.ext aH; replace ah := ah.ext aH; replace ar := ar.ext aH; replace K0 := K0.ext aH; refine Run.loop (ι := Nat) (fun j ρ' w' => Holds ρ' [(2, jp a9), (5, jp ax), (8, .slice (aB) (((L.map Mg.ct) ++ ([(Mg.ct ⟨v, s⟩)] : List CartC)).length) (bj)), (9, .map (some a8)), (16, jp cm), (34, .slice (ad) (ds.length) (cd)), (35, .int .i64 (((ds.length : Nat) : Int))), (36, .int .i64 (((i : Nat) : Int))), (37, .bool (decide (((i : Nat) : Int) < ((ds.length : Nat) : Int)))), (90, .slice (ce) (([(⟨Q.id, (onSt Q v), (mkC (onVl Q v) a5).cart⟩ : ToldC)] : List ToldC).length) (cf)), (91, .int .i64 (1)), (92, .int .i64 (0)), (115, .slice (aB) (((L.map Mg.ct) ++ ([(Mg.ct ⟨v, s⟩)] : List CartC)).length) (bj)), (116, .int .i64 (((((L.map Mg.ct) ++ ([(Mg.ct ⟨v, s⟩)] : List CartC)).length : Nat) : Int))), (117, .int .i64 (((j : Nat) : Int)))] ∧ Ext w w' ∧ (Blk w' a9 [.bool (false), .int .i64 (self), .int .i64 (req), .int .i64 (id), .int .i64 (knd), .string (key), .string (item), .int .i64 (qty), .int .u64 (price), .slice (sa.ea) (va.ent.length) (sa.ec), .slice (sa.ma) (va.mrk.length) (sa.mc), .slice (sa.ca) (va.cl.length) (sa.cc), .slice (sc.ea) (vc.ent.length) (sc.ec), .slice (sc.ma) (vc.mrk.length) (sc.mc), .slice (sc.ca) (vc.cl.length) (sc.cc), .slice (al) (ts.length) (lc), .int .i64 (nd), .int .i64 (now)] 34) ∧ (Blk w' bG [.bool (tk), .int .i64 (nw), .int .i64 (v.kind), .int .i64 (v.frm), .int .i64 (v.to), .int .i64 (v.req), .string (v.key), .slice (s.ea) (v.ent.length) (s.ec), .slice (s.ma) (v.mrk.length) (s.mc), .slice (s.ca) (v.cl.length) (s.cc), .int .i64 (v.owner), .int .i64 (v.part), .int .i64 (v.n), .int .i64 (v.parts), .int .i64 (v.copies), .int .i64 (v.spots), .slice (s.ba) (v.mem.length) (s.bc), .slice (s.pa) (v.pe.length) (s.pc), .slice (s.sa) (v.su.length) (s.sc)] 50) ∧ (Blk w' cm [.int .i64 (Q.id), .int .i64 (onSt Q v), .slice (a5.ea) ((onVl Q v).ent.length) (a5.ec), .slice (a5.ma) ((onVl Q v).mrk.length) (a5.mc), .slice (a5.ca) ((onVl Q v).cl.length) (a5.cc)] 63) ∧ (MapAt w' a8 (akT (tks ++ [v.frm]))) ∧ (OwnSl w' 29 (some ⟨dv, 0, none⟩) (([(Mg.ct ⟨v, s⟩)] : List CartC).length) (([(Mg.ct ⟨v, s⟩)] : List CartC))) ∧ (OwnSl w' 29 (aB) (bj) ((L.map Mg.ct) ++ ([(Mg.ct ⟨v, s⟩)] : List CartC))) ∧ (SixO w' c8 v) ∧ (MachAt w' ax an (onN Q v)) ∧ (OwnSl w' 63 (ce) (cf) (([(⟨Q.id, (onSt Q v), (mkC (onVl Q v) a5).cart⟩ : ToldC)] : List ToldC))) ∧ (CartO w' a5 (onVl Q v)) ∧ (j ≤ (seenL L v s).length)) (fun j => (seenL L v s).length - j) 0 ?_ ?_
        ·refine ⟨⟨rfl, rfl, rfl, rfl, rfl, rfl, rfl, rfl, rfl, rfl, rfl, rfl, rfl, rfl, rfl, trivial⟩, K0, a0, a2, ar, a1, aa, a7, ac, aj, aq, ah, ?_⟩
         ·omega
        clear a0 a1 a2 aa a7 ac aj aq ah ar; clear K0; rintro j g1 g2 ⟨cn, K0, a0, a2, ar, a1, aa, a7, ac, aj, aq, ah, hj⟩ ih7; obtain ⟨ρ₀, rfl⟩ := cn.ex; clear cn; refine jG ?_; refine jF ?_ ?_
        ·intro hc118
         obtain ⟨g3, g4, y, hy, g5, co⟩ := a7.sl.eo j; refine jG1 ?_; obtain ⟨p, hp, hye⟩ := ct_get (L := seenL L v s) (by rw [hxs]; exact hy); have hpr := hsn2 p hp; refine jV (litV (v' := .agg #[.slice (p.s.ea) (p.v.ent.length) (p.s.ec), .slice (p.s.ma) (p.v.mrk.length) (p.s.mc), .slice (p.s.ca) (p.v.cl.length) (p.s.cc)]) (x_ldV (v := .agg #[.slice ((y).entries.a) ((y).entries.len) ((y).entries.cap), .slice (((y).ctx).marks.a) (((y).ctx).marks.len) (((y).ctx).marks.cap), .slice (((y).ctx).cloud.a) (((y).ctx).cloud.len) (((y).ctx).cloud.cap)]) (y := y) ty29 rfl co rfl) (by rw [hye]; rfl)) ?_; refine jR <| jA ?_; intro g6 g7 au cp aI; have g8 := ltLe a0.lt au; have g9 := ltLe a2.lt au; have ga := ltLe ar.lt au; have gb := ltLe co.lt au; have dN := ltNo a1.own_lt au; have dO := ltNo aa.own_lt au; have dP := ltNo a7.own_lt au; have dQ := ltNo ac.own_lt au; have dR := ltNo aj.own_lt au; have dS := ltNo aq.own_lt au; have dT := ltNo ah.own_lt au; have := Nat.le_trans K0.size au; clear au; refine jR <| jS cp ?_; intro gc cp aJ; replace ar := (ar.ext aI).kp aJ; refine jG ?_; replace ah := (ah.ext aI).keepO aJ (noOne dT); replace K0 := (K0.ext aI).n1 aJ; refine jR <| jC (rLeqV_ p.v (onVl Q v) p.s a5 _ (hpr.1.ext K0).cart ah.r hpr.2 hk5 (canV_can (hk3 p hp).1).ctx hk4 (hk3 p hp).2) ?_; rintro _ gd ⟨rfl, aK⟩; refine jV (x_not (b := true) rfl) ?_; refine jG ?_; refine Run.condF rfl ?_; refine jG ?_; refine jV (litI (c := ((j + 1 : Nat) : Int)) (x_add rfl rfl (by omega) (by omega)) rfl) ?_; refine jG ?_; refine ih7 (j + 1) _ _ ?_ (by omega); replace a0 := ((a0.ext aI).kp aJ).ext aK; replace a2 := ((a2.ext aI).kp aJ).ext aK; replace a1 := ((a1.ext aI).keepO aJ (noOne dN)).ext aK; replace aa := ((aa.ext aI).keepO aJ (noOne dO)).ext aK; replace a7 := ((a7.ext aI).keepO aJ (noOne dP)).ext aK; replace ac := ((ac.ext aI).keepO aJ (noOne dQ)).ext aK; replace aj := ((aj.ext aI).keepO aJ (noOne dR)).ext aK; replace aq := ((aq.ext aI).keepO aJ (noOne dS)).ext aK; replace ar := ar.ext aK; replace ah := ah.ext aK; replace K0 := K0.ext aK; refine ⟨⟨rfl, rfl, rfl, rfl, rfl, rfl, rfl, rfl, rfl, rfl, rfl, rfl, rfl, rfl, rfl, trivial⟩, K0, a0, a2, ar, a1, aa, a7, ac, aj, aq, ah, ?_⟩
         ·omega
        ·intro hc118
         refine jG ?_; refine jV (litI (c := 1) (x_add rfl rfl (by decide) (by decide)) (by decide)) ?_; refine jG ?_; refine Run.inLoop ?_; refine jG ?_; refine Run.condF rfl ?_; refine jG ?_; refine jV (litI (c := ((i + 1 : Nat) : Int)) (x_add rfl rfl (by omega) (by omega)) rfl) ?_; refine jG ?_; refine ih1 (i + 1) _ _ ?_ (by omega); refine ⟨an, (onN Q v), (tks ++ [v.frm]), (L ++ [⟨v, s⟩]), aB, bj, ?_⟩; rw [show (L ++ [⟨v, s⟩] : List Mg).map Mg.ct = L.map Mg.ct ++ [(Mg.ct ⟨v, s⟩)] from by rw [List.map_append]; rfl]; refine ⟨⟨rfl, rfl, rfl, rfl, rfl, rfl, rfl, trivial⟩, K0, a0, aj, a1, a7, cg, ch, ci, cj, ay, (fun q_ h1 h2 => bT q_ h2 h1), aA, bS, bU, ?_, ?_, ?_, ?_, ?_⟩
         ·omega
         ·exact hS.told bK
         ·exact hsq.on
         ·exact hsn.add hR0 hv
         ·rw [List.length_append]; show L.length + 1 ≤ i + 1; omega
     ·intro hc75
      refine jG ?_; refine jR <| jC (msg_ v s _ (hR0.ext K0) (by assumption)) ?_; rintro _ cq ⟨cr, rfl, ae, gf, cu, bl⟩; have cv := apartNew cu a4.own_lt; clear cu; replace a4 := a4.ext bl; refine jR <| jC (onA_ ax F1 Q v cr _ a4 hS.inv ae.r hv hE ae.ent.le_cap) ?_; replace a0 := a0.ext bl; replace a1 := a1.ext bl; replace a3 := a3.ext bl; replace a2 := a2.ext bl; replace K0 := K0.ext bl; rintro _ gg ⟨ap, gh, gi, gj, gk, rfl, ak, -, -, -, (⟨bL, rfl⟩ | ⟨bL, cw, cy, a6, rfl, av, ai, gl, dU, gm, gn, go, gp⟩), aE, -, -, -, -, -, aF⟩
      ·replace aE : MovedS cq F1 ap := aE
       have dV : ¬ ap a9 := aE.not af a0.lt; have dW : ∀ q_, ap q_ → ¬ one a8 q_ := aE.apart ab a1.own_lt; have dX : ∀ q_, ap q_ → ¬ own a' q_ := aE.apart am a3.own_lt; have dY : ∀ q_, ap q_ → w.heap.size ≤ q_ := aE.ge ag K0.size; clear a4; refine jG4 ?_; refine jG2 ?_; refine jV (litI (c := 0) (x_lenSl Tryz.underlying58 rfl) rfl) ?_; refine jG ?_; refine Run.unloop ?_; refine jG ?_; refine Run.condF rfl ?_; refine jG ?_; refine jV (litI (c := ((i + 1 : Nat) : Int)) (x_add rfl rfl (by omega) (by omega)) rfl) ?_; refine jG ?_; have hq3 := hS.quiet (s := s) hon hna bL; rw [show seenL L v s = L from by unfold seenL; rw [if_neg hc75, List.append_nil]] at hq3; refine ih1 (i + 1) _ _ ?_ (by omega); replace a0 := a0.keep aF af; replace a1 := a1.keepO aF (fun q_ h1 h2 => ab q_ h2 h1); replace a3 := a3.keepO aF (fun q_ h1 h2 => am q_ h2 h1); replace a2 := a2.keep aF aW; replace ae := ae.keepO aF cv; replace K0 := K0.new aF ag; refine ⟨ap, (onN Q v), (tks ++ [v.frm]), L, a', c', ⟨rfl, rfl, rfl, rfl, rfl, rfl, rfl, trivial⟩, K0, a0, ak, a1, a3, dV, dW, dX, dY, ay, az, aA, aM, aN, ?_, ?_, ?_, ?_, ?_⟩
       ·omega
       ·exact hq3
       ·exact hsq.on
       ·exact hsn
       ·omega
      ·have gr := notNew dU a0.lt
       replace aE : MovedS cq F1 ap := aE; have cz : ¬ ap a9 := aE.not af a0.lt; have cA : ∀ q_, ap q_ → ¬ one a8 q_ := aE.apart ab a1.own_lt; have cB : ∀ q_, ap q_ → ¬ own a' q_ := aE.apart am a3.own_lt; have cC : ∀ q_, ap q_ → w.heap.size ≤ q_ := aE.ge ag K0.size; clear a4; refine jG4 ?_; refine jG2 ?_; refine jV (litI (c := 1) (x_lenSl Tryz.underlying58 rfl) rfl) ?_; refine jG ?_; refine Run.unloop ?_; refine jG ?_; refine jT1 ?_; refine Jct ?_; obtain ⟨gs, gu, dZ, e0, e1, cD⟩ := av.sl.el (i := 0) (by simp); obtain rfl : (⟨Q.id, (onSt Q v), (mkC (onVl Q v) a6).cart⟩ : ToldC) = dZ := Option.some.inj e0; refine jV (x_idxN Tryz.underlying58 ty63 rfl rfl e1 (by simp)) ?_; refine jV (litV (v' := .agg #[.int .i64 (Q.id), .int .i64 (onSt Q v), .slice (a6.ea) ((onVl Q v).ent.length) (a6.ec), .slice (a6.ma) ((onVl Q v).mrk.length) (a6.mc), .slice (a6.ca) ((onVl Q v).cl.length) (a6.cc)]) (x_ldV (v := .agg #[.int .i64 (((⟨Q.id, (onSt Q v), (mkC (onVl Q v) a6).cart⟩ : ToldC)).id), .int .i64 (((⟨Q.id, (onSt Q v), (mkC (onVl Q v) a6).cart⟩ : ToldC)).status), .slice ((((⟨Q.id, (onSt Q v), (mkC (onVl Q v) a6).cart⟩ : ToldC)).cart).entries.a) ((((⟨Q.id, (onSt Q v), (mkC (onVl Q v) a6).cart⟩ : ToldC)).cart).entries.len) ((((⟨Q.id, (onSt Q v), (mkC (onVl Q v) a6).cart⟩ : ToldC)).cart).entries.cap), .slice (((((⟨Q.id, (onSt Q v), (mkC (onVl Q v) a6).cart⟩ : ToldC)).cart).ctx).marks.a) (((((⟨Q.id, (onSt Q v), (mkC (onVl Q v) a6).cart⟩ : ToldC)).cart).ctx).marks.len) (((((⟨Q.id, (onSt Q v), (mkC (onVl Q v) a6).cart⟩ : ToldC)).cart).ctx).marks.cap), .slice (((((⟨Q.id, (onSt Q v), (mkC (onVl Q v) a6).cart⟩ : ToldC)).cart).ctx).cloud.a) (((((⟨Q.id, (onSt Q v), (mkC (onVl Q v) a6).cart⟩ : ToldC)).cart).ctx).cloud.len) (((((⟨Q.id, (onSt Q v), (mkC (onVl Q v) a6).cart⟩ : ToldC)).cart).ctx).cloud.cap)]) (y := (⟨Q.id, (onSt Q v), (mkC (onVl Q v) a6).cart⟩ : ToldC)) ty63 rfl cD rfl) rfl) ?_; refine jR <| jA ?_; intro cE gw aL aw aU; replace a0 := a0.keep aF af; have gx := ltLe a0.lt aL; replace a2 := a2.keep aF aW; have gy := ltLe a2.lt aL; have gz := ltLe cD.lt aL; replace a1 := a1.keepO aF (fun q_ h1 h2 => ab q_ h2 h1); have e2 := ltNo a1.own_lt aL; replace a3 := a3.keepO aF (fun q_ h1 h2 => am q_ h2 h1); have e3 := ltNo a3.own_lt aL; replace ae := ae.keepO aF cv; have e4 := ltNo ae.own_lt aL; have e5 := ltNo ak.own_lt aL; have e6 := ltNo av.own_lt aL; have e7 := ltNo ai.own_lt aL; replace K0 := K0.new aF ag; have := Nat.le_trans K0.size aL; clear aL; refine jR <| jS aw ?_; intro gA aw aV; refine jG ?_; replace a0 := (a0.ext aU).kp aV; replace a1 := (a1.ext aU).keepO aV (noOne e2); replace a3 := (a3.ext aU).keepO aV (noOne e3); replace a2 := (a2.ext aU).kp aV; replace ae := (ae.ext aU).keepO aV (noOne e4); replace ak := (ak.ext aU).keepO aV (noOne e5); replace av := (av.ext aU).keepO aV (noOne e6); replace ai := (ai.ext aU).keepO aV (noOne e7); replace K0 := (K0.ext aU).n1 aV; refine jF ?_ ?_
       ·intro hc98
        refine jG ?_; refine jV (litI (c := 1) (x_add rfl rfl (by decide) (by decide)) (by decide)) ?_; refine jG ?_; refine Run.inLoop ?_; refine jG ?_; refine Run.condF rfl ?_; refine jG ?_; refine jV (litI (c := ((i + 1 : Nat) : Int)) (x_add rfl rfl (by omega) (by omega)) rfl) ?_; refine jG ?_; refine ih1 (i + 1) _ _ ?_ (by omega); refine ⟨ap, (onN Q v), (tks ++ [v.frm]), L, a', c', ⟨rfl, rfl, rfl, rfl, rfl, rfl, rfl, trivial⟩, K0, a0, ak, a1, a3, cz, cA, cB, cC, ay, az, aA, aM, aN, ?_, ?_, ?_, ?_, ?_⟩
        ·omega
        ·exact hS.told bL
        ·exact hsq.on
        ·exact hsn
        ·omega
       ·intro hc98
        obtain ⟨hk1, hk2, hk3, hk4, hk5⟩ := hS.ok200 (s := s) hon hna (by simpa using hc98); rw [hsq.sn] at hk2; rw [hsq.nd] at hk1; have hsL : seenL L v s = L := by unfold seenL; rw [if_neg hc75, List.append_nil]
        have hxs : (seenL L v s).map Mg.ct = L.map Mg.ct := by rw [hsL]
        have hsn2 : SeenAt w (seenL L v s) := by rw [hsL]; exact hsn
        have hkb : (seenL L v s).length ≤ L.length + 1 := by rw [hsL]; first | exact Nat.le_succ _ | (rw [List.length_append]; exact Nat.le_refl _)
        have hkl : (L.map Mg.ct).length = (seenL L v s).length := by rw [← hxs, List.length_map]
        refine jG4 ?_; refine jV (litF (x_ltI rfl rfl) (cov_lt (by rw [hkl]; exact hk1))) ?_; refine jG ?_; refine jT <| jC (rleqV_ va (onVl Q v) sa a6 _ (hA.ext K0) ai.r hoa.ok hk4 hk2) ?_; rintro _ gB ⟨rfl, aQ⟩; refine jT <| jO (x_not (b := true) rfl) ?_; refine jV (x_orF rfl rfl rfl) ?_; refine jG ?_; refine Run.condF rfl ?_; refine jG ?_; replace a0 := a0.ext aQ; replace a1 := a1.ext aQ; replace a3 := a3.ext aQ; replace a2 := a2.ext aQ; replace ae := ae.ext aQ; replace ak := ak.ext aQ; replace av := av.ext aQ; replace ai := ai.ext aQ; replace aw := aw.ext aQ; replace K0 := K0.ext aQ; refine Run.loop (ι := Nat) (fun j ρ' w' => Holds ρ' [(2, jp a9), (5, jp ax), (8, .slice (a') ((L.map Mg.ct).length) (c')), (9, .map (some a8)), (16, jp cE), (34, .slice (ad) (ds.length) (cd)), (35, .int .i64 (((ds.length : Nat) : Int))), (36, .int .i64 (((i : Nat) : Int))), (37, .bool (decide (((i : Nat) : Int) < ((ds.length : Nat) : Int)))), (90, .slice (cw) (([(⟨Q.id, (onSt Q v), (mkC (onVl Q v) a6).cart⟩ : ToldC)] : List ToldC).length) (cy)), (91, .int .i64 (1)), (92, .int .i64 (0)), (115, .slice (a') ((L.map Mg.ct).length) (c')), (116, .int .i64 ((((L.map Mg.ct).length : Nat) : Int))), (117, .int .i64 (((j : Nat) : Int)))] ∧ Ext w w' ∧ (Blk w' a9 [.bool (false), .int .i64 (self), .int .i64 (req), .int .i64 (id), .int .i64 (knd), .string (key), .string (item), .int .i64 (qty), .int .u64 (price), .slice (sa.ea) (va.ent.length) (sa.ec), .slice (sa.ma) (va.mrk.length) (sa.mc), .slice (sa.ca) (va.cl.length) (sa.cc), .slice (sc.ea) (vc.ent.length) (sc.ec), .slice (sc.ma) (vc.mrk.length) (sc.mc), .slice (sc.ca) (vc.cl.length) (sc.cc), .slice (al) (ts.length) (lc), .int .i64 (nd), .int .i64 (now)] 34) ∧ (Blk w' bG [.bool (tk), .int .i64 (nw), .int .i64 (v.kind), .int .i64 (v.frm), .int .i64 (v.to), .int .i64 (v.req), .string (v.key), .slice (s.ea) (v.ent.length) (s.ec), .slice (s.ma) (v.mrk.length) (s.mc), .slice (s.ca) (v.cl.length) (s.cc), .int .i64 (v.owner), .int .i64 (v.part), .int .i64 (v.n), .int .i64 (v.parts), .int .i64 (v.copies), .int .i64 (v.spots), .slice (s.ba) (v.mem.length) (s.bc), .slice (s.pa) (v.pe.length) (s.pc), .slice (s.sa) (v.su.length) (s.sc)] 50) ∧ (Blk w' cE [.int .i64 (Q.id), .int .i64 (onSt Q v), .slice (a6.ea) ((onVl Q v).ent.length) (a6.ec), .slice (a6.ma) ((onVl Q v).mrk.length) (a6.mc), .slice (a6.ca) ((onVl Q v).cl.length) (a6.cc)] 63) ∧ (MapAt w' a8 (akT (tks ++ [v.frm]))) ∧ (OwnSl w' 29 (a') (c') (L.map Mg.ct)) ∧ (SixO w' cr v) ∧ (MachAt w' ax ap (onN Q v)) ∧ (OwnSl w' 63 (cw) (cy) (([(⟨Q.id, (onSt Q v), (mkC (onVl Q v) a6).cart⟩ : ToldC)] : List ToldC))) ∧ (CartO w' a6 (onVl Q v)) ∧ (j ≤ (seenL L v s).length)) (fun j => (seenL L v s).length - j) 0 ?_ ?_
        ·refine ⟨⟨rfl, rfl, rfl, rfl, rfl, rfl, rfl, rfl, rfl, rfl, rfl, rfl, rfl, rfl, rfl, trivial⟩, K0, a0, a2, aw, a1, a3, ae, ak, av, ai, ?_⟩
         ·omega
        clear a0 a1 a3 a2 ae ak av ai aw; clear K0; rintro j gC gD ⟨cF, K0, a0, a2, aw, a1, a3, ae, ak, av, ai, hj⟩ ih10; obtain ⟨ρ₀, rfl⟩ := cF.ex; clear cF; refine jG ?_; refine jF ?_ ?_
        ·intro hc118
         obtain ⟨gE, gF, y, hy, gG, cG⟩ := a3.sl.eo j; refine jG1 ?_; obtain ⟨p, hp, hye⟩ := ct_get (L := seenL L v s) (by rw [hxs]; exact hy); have hpr := hsn2 p hp; refine jV (litV (v' := .agg #[.slice (p.s.ea) (p.v.ent.length) (p.s.ec), .slice (p.s.ma) (p.v.mrk.length) (p.s.mc), .slice (p.s.ca) (p.v.cl.length) (p.s.cc)]) (x_ldV (v := .agg #[.slice ((y).entries.a) ((y).entries.len) ((y).entries.cap), .slice (((y).ctx).marks.a) (((y).ctx).marks.len) (((y).ctx).marks.cap), .slice (((y).ctx).cloud.a) (((y).ctx).cloud.len) (((y).ctx).cloud.cap)]) (y := y) ty29 rfl cG rfl) (by rw [hye]; rfl)) ?_; refine jR <| jA ?_; intro gH gI aG cH aR; have gJ := ltLe a0.lt aG; have gK := ltLe a2.lt aG; have gL := ltLe aw.lt aG; have gM := ltLe cG.lt aG; have e8 := ltNo a1.own_lt aG; have e9 := ltNo a3.own_lt aG; have eb := ltNo ae.own_lt aG; have ed := ltNo ak.own_lt aG; have ee := ltNo av.own_lt aG; have ef := ltNo ai.own_lt aG; have := Nat.le_trans K0.size aG; clear aG; refine jR <| jS cH ?_; intro gN cH aS; replace aw := (aw.ext aR).kp aS; refine jG ?_; replace ai := (ai.ext aR).keepO aS (noOne ef); replace K0 := (K0.ext aR).n1 aS; refine jR <| jC (rLeqV_ p.v (onVl Q v) p.s a6 _ (hpr.1.ext K0).cart ai.r hpr.2 hk5 (canV_can (hk3 p hp).1).ctx hk4 (hk3 p hp).2) ?_; rintro _ gO ⟨rfl, aT⟩; refine jV (x_not (b := true) rfl) ?_; refine jG ?_; refine Run.condF rfl ?_; refine jG ?_; refine jV (litI (c := ((j + 1 : Nat) : Int)) (x_add rfl rfl (by omega) (by omega)) rfl) ?_; refine jG ?_; refine ih10 (j + 1) _ _ ?_ (by omega); replace a0 := ((a0.ext aR).kp aS).ext aT; replace a2 := ((a2.ext aR).kp aS).ext aT; replace a1 := ((a1.ext aR).keepO aS (noOne e8)).ext aT; replace a3 := ((a3.ext aR).keepO aS (noOne e9)).ext aT; replace ae := ((ae.ext aR).keepO aS (noOne eb)).ext aT; replace ak := ((ak.ext aR).keepO aS (noOne ed)).ext aT; replace av := ((av.ext aR).keepO aS (noOne ee)).ext aT; replace aw := aw.ext aT; replace ai := ai.ext aT; replace K0 := K0.ext aT; refine ⟨⟨rfl, rfl, rfl, rfl, rfl, rfl, rfl, rfl, rfl, rfl, rfl, rfl, rfl, rfl, rfl, trivial⟩, K0, a0, a2, aw, a1, a3, ae, ak, av, ai, ?_⟩
         ·omega
        ·intro hc118
         refine jG ?_; refine jV (litI (c := 1) (x_add rfl rfl (by decide) (by decide)) (by decide)) ?_; refine jG ?_; refine Run.inLoop ?_; refine jG ?_; refine Run.condF rfl ?_; refine jG ?_; refine jV (litI (c := ((i + 1 : Nat) : Int)) (x_add rfl rfl (by omega) (by omega)) rfl) ?_; refine jG ?_; refine ih1 (i + 1) _ _ ?_ (by omega); refine ⟨ap, (onN Q v), (tks ++ [v.frm]), L, a', c', ⟨rfl, rfl, rfl, rfl, rfl, rfl, rfl, trivial⟩, K0, a0, ak, a1, a3, cz, cA, cB, cC, ay, az, aA, aM, aN, ?_, ?_, ?_, ?_, ?_⟩
         ·omega
         ·exact hS.told bL
         ·exact hsq.on
         ·exact hsn
         ·omega
    ·have hna : Q.answered = false := by simpa using hAn
     have hdn : Q.done = false := by
      cases hd_ : Q.done with
      | false => rfl
      | true => exact absurd (hS.da hd_) hAn
     refine jG ?_; refine jV (x_and rfl rfl rfl) ?_; refine jG ?_; refine jV (x_and rfl rfl rfl) ?_; refine jG ?_; refine jW ?_ (hx := by exact fun hg => (litV (v' := .bool (decide (v.frm ∈ tks))) (x_lookup (κ := Int) (a := v.frm) Tryz.underlying41 Tryz.underlying3 rfl ty4 (gvr hg) (gvr hg) a1) (akT_get _ _))); refine jG ?_; refine jV (litF (x_and rfl rfl rfl) (by rw [← seen_on hS.md hdn hS.get hsq.rq hsq.ts (hS.tk hna)]; simpa using hon)) ?_; refine jG ?_; refine Run.condF rfl ?_; refine jG ?_; refine jR <| jC (msg_ v s _ (hR0.ext K0) (by assumption)) ?_; rintro _ eg ⟨eh, rfl, cI, gP, ei, bE⟩; clear ei; replace a4 := a4.ext bE; refine jR <| jC (onA_ ax F1 Q v eh _ a4 hS.inv cI.r hv hE cI.ent.le_cap) ?_; replace a0 := a0.ext bE; replace a1 := a1.ext bE; replace a3 := a3.ext bE; replace K0 := K0.ext bE; rintro _ gQ ⟨bm, gR, gS, gU, gV, rfl, ej, -, -, -, (⟨cJ, rfl⟩ | ⟨cJ, gW, gX, gY, rfl, gZ, h0, h3, h4, h5, h6, h7, h8⟩), bn, -, -, -, -, -, bM⟩
     ·replace bn : MovedS eg F1 bm := bn
      have ek : ¬ bm a9 := bn.not af a0.lt; have em : ∀ q_, bm q_ → ¬ one a8 q_ := bn.apart ab a1.own_lt; have en : ∀ q_, bm q_ → ¬ own a' q_ := bn.apart am a3.own_lt; have ep : ∀ q_, bm q_ → w.heap.size ≤ q_ := bn.ge ag K0.size; clear a4; refine jG4 ?_; refine jG2 ?_; refine jV (litI (c := 0) (x_lenSl Tryz.underlying58 rfl) rfl) ?_; refine jG ?_; refine Run.unloop ?_; refine jG ?_; refine Run.condF rfl ?_; refine jG ?_; refine jV (litI (c := ((i + 1 : Nat) : Int)) (x_add rfl rfl (by omega) (by omega)) rfl) ?_; refine jG ?_; refine ih1 (i + 1) _ _ ?_ (by omega); replace a0 := a0.keep bM af; replace a1 := a1.keepO bM (fun q_ h1 h2 => ab q_ h2 h1); replace a3 := a3.keepO bM (fun q_ h1 h2 => am q_ h2 h1); replace K0 := K0.new bM ag; refine ⟨bm, (onN Q v), tks, L, a', c', ⟨rfl, rfl, rfl, rfl, rfl, rfl, rfl, trivial⟩, K0, a0, ej, a1, a3, ek, em, en, ep, ay, az, aA, aM, aN, ?_, ?_, ?_, ?_, ?_⟩
      ·omega
      ·exact hS.no hon
      ·exact hsq.on
      ·exact hsn
      ·omega
     ·exact absurd (onN_no hon).2.2 cJ
  ·intro hc37
   refine jG ?_; refine jJ Tryz.func3 ?_; exact ⟨_, rfl, rfl, K0⟩
end Go.Proofs.YtocgdeefgohdhaaGreat
