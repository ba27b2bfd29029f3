/-
  Cs
-/
import Derived.Test.YtocgdeefgohdhaaGreatRows
import Derived.Test.YtocgdeefgohdhaaGreatPkCq
/-
  Carts, nineteenth part: the program's Join.
-/
namespace Go.Proofs.YtocgdeefgohdhaaGreat
attribute [local irreducible] St1 RL RA RT RT1 Run
section
open Go.Shelf Go.RowKit Go.Lib Go.Sort
/-- the order of some entries of which no two have the same dot -/
def cfE {ys : List EntryC} (x y : {e : EntryC // e ∈ ys}) : Int := ordE x.1 y.1
end
attribute [local irreducible] mayD smD ltD ltM ordD mkN Cov CovR
attribute [local irreducible] ltE cmpE itemsN errE firstE canE canX Gr nameK priceN
attribute [local irreducible] insXE insE keptJ joinC joinE Clash
attribute [local irreducible] kA kB
end Go.Proofs.YtocgdeefgohdhaaGreat
