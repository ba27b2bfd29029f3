/-
  SwimDead.
-/
import Derived.Test.YtagfdmdajmkddaaRows
import Derived.Test.YtagfdmdajmkddaaLi
namespace Go.Proofs.Ytagfdmdajmkddaa
attribute [local irreducible] St1 RL RA RT RT1 Run

open Sa
/-- a table that knows of one other node, and has pinged it -/
structure Dst (a b now st si : Int) (ps : List Ping) (req last : Int) (T : Tab) : Prop where
  self : T.self = a
  now : T.now = now
  at_ : T.l[b.toNat]? = some ⟨⟨b, 0, st⟩, si⟩
  oth : ∀ n k, n ≠ b.toNat → T.l[n]? = some k → ((n : Int) = a ∧ k.peer.status = 1) ∨ k.peer.status = 0
  len : T.l.length = 8
  pings : T.pings = ps
  req : T.req = req
  begun : T.begun = true
  last : T.last = last
  target : T.target = b
theorem Dst.to {a b now st si req last now' st' si' req' last' : Int} {ps ps' : List Ping} {T : Tab} (h : Dst a b now st si ps req last T) (h1 : now = now') (h2 : st = st') (h3 : si = si') (h4 : ps = ps') (h5 : req = req') (h6 : last = last') : Dst a b now' st' si' ps' req' last' T := by
  subst h1; subst h2; subst h3; subst h4; subst h5; subst h6; exact h
section
attribute [local irreducible] oldT waitedT beginT passT
end
section
variable {a b now st si req last : Int} {ps : List Ping} {T : Tab}
theorem Dst.learn (h : Dst a b now st si ps req last T) (hb : 0 ≤ b ∧ b < 8) (st' : Int) : Dst a b now st' now ps req last (learnT T ⟨b, 0, st'⟩) := by
  refine ⟨h.self, h.now, ?_, ?_, by simp only [learnT, List.length_set]; exact h.len, h.pings, h.req, h.begun, h.last, h.target⟩
  · simp only [learnT, h.now]
    rw [List.getElem?_set_self (by have := h.len; omega)]
  · intro n k hn hk
    simp only [learnT] at hk
    rw [List.getElem?_set_ne (by omega)] at hk
    exact h.oth n k hn hk
end
def stOf (i : Nat) : Int := if i < 100 then 1 else if i < 400 then 2 else 3
def siOf (f : Int) (i : Nat) : Int := if i < 100 then f else if i < 400 then f + 100 else f + 400
def pingOf (b f : Int) (i : Nat) : Ping := ⟨b, ((i / 100 : Nat) : Int) + 1, f + 100 * ((i / 100 : Nat) : Int) + (if i % 100 < 50 then 0 else 50), decide (50 ≤ i % 100)⟩
def DeadSt (a b f : Int) (i : Nat) (T : Tab) : Prop := Dst a b (f + (i : Int)) (stOf i) (siOf f i) [pingOf b f i] (((i / 100 : Nat) : Int) + 1) (f + 100 * ((i / 100 : Nat) : Int)) T
/-- the table ahead of the first tick -/
def deadT (a b f : Int) : Tab := (hear (newT a) [⟨b, 0, 1⟩] f).1
def Before (a b f : Int) (i : Nat) (T : Tab) : Prop := (i = 0 ∧ T = deadT a b f) ∨ ∃ j, i = j + 1 ∧ DeadSt a b f j T
attribute [local irreducible] tick



end Go.Proofs.Ytagfdmdajmkddaa
