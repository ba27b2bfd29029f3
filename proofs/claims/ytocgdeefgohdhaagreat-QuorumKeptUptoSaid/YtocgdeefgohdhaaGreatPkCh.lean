/-
  Ch, Ci, Cj
-/
import Derived.Test.YtocgdeefgohdhaaGreatRows
import Derived.Test.YtocgdeefgohdhaaGreatPkCf
import Derived.Test.YtocgdeefgohdhaaGreatPkBits
import Derived.Test.YtocgdeefgohdhaaGreatPkErr
import Derived.Test.YtocgdeefgohdhaaGreatPkI
set_option linter.all false
set_option maxRecDepth 100000
set_option maxHeartbeats 4000000
namespace Go.Proofs.YtocgdeefgohdhaaGreat
attribute [local irreducible] RD RS St1 RL RA RT RT1 Run
structure LowB (ms:List MarkC)(m:MarkC)(i:Nat):Prop where
 hi:i≤ms.length
 lo:∀k,k<i→∀x,ms[k]? =some x→ltM x m
 up:∀k,i≤k→∀x,ms[k]? =some x→¬ltM x m
attribute [local irreducible] mayD smD ltD ltM ordD mkN Cov CovR
attribute [local irreducible] setX insX setR insR normE joinE normX rnd Raw
attribute [local irreducible] growX setM
end Go.Proofs.YtocgdeefgohdhaaGreat
namespace Go.Proofs.YtocgdeefgohdhaaGreat
attribute [local irreducible] RD RS St1 RL RA RT RT1 Run
attribute [local irreducible] mayD smD ltD ltM ordD mkN Cov CovR
attribute [local irreducible] setX insX setR insR normE joinE normX rnd Raw
attribute [local irreducible] growX setM insL
theorem setM_len (ms : List MarkC) (d : DotC) : (setM ms d).length ≤ ms.length + 1 := by
  induction ms with
  | nil => simp [setM]
  | cons m l ih =>
    rw [setM]
    split
    · simp
    · split <;> simp <;> omega
theorem growX_len (c:List MarkC×List DotC)(d:DotC):(growX c d).1.length+(growX c d).2.length≤c.1.length+c.2.length+1:=by
 have:=setM_len c.1 d
 unfold growX
 split
 ·omega
 ·split<;>simp<;>omega
theorem growX_may {c:List MarkC×List DotC}{d:DotC}(h:∀m∈c.1,mayD m.d)(hd:mayD d):∀m∈(growX c d).1,mayD m.d:=by
 unfold growX
 split
 ·exact h
 ·split
  ·exact h
  ·intro m hm
   rcases setM_mem hm with rfl|hm
   ·exact hd
   ·exact h m hm
theorem growX_sorted {c:List MarkC×List DotC}{d:DotC}(h:c.1.Pairwise ltM):(growX c d).1.Pairwise ltM:=by
 unfold growX
 split
 ·exact h
 ·split
  ·exact h
  ·exact setM_sorted h
end Go.Proofs.YtocgdeefgohdhaaGreat
namespace Go.Proofs.YtocgdeefgohdhaaGreat
attribute [local irreducible] RD RS St1 RL RA RT RT1 Run
def mgX (l:List DotC)(i:Nat):List MarkC:=(l.take i).foldl mergeM []
def gwX (c:List MarkC×List DotC)(l:List DotC)(i:Nat):List MarkC×List DotC:=(l.take i).foldl growX c
structure GwI (c:List MarkC×List DotC)(n:Nat):Prop where
 hs:c.1.Pairwise ltM
 hm:∀m∈c.1,mayD m.d
 hl:c.1.length+c.2.length≤n
theorem GwI.step {c:List MarkC×List DotC}{n:Nat}{d:DotC}(h:GwI c n)(hd:mayD d):GwI (growX c d) (n+1):=⟨growX_sorted h.hs,growX_may h.hm hd,by have:=growX_len c d;have:=h.hl;omega⟩
attribute [local irreducible] mayD smD ltD ltM ordD mkN Cov CovR
attribute [local irreducible] setX insX setR insR normE joinE normX rnd Raw
attribute [local irreducible] growX setM insL mgX gwX uniq sortD marksOf
end Go.Proofs.YtocgdeefgohdhaaGreat
